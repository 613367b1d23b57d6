/- Contracts of functions of the program, each as it is called: what it computes (.f), that it computes no less with more rounds (.mono), and that a call returns just that (.calls). No conditions but those that each contract names. Written by a program of this session (wip/gx.py over the kit's print). -/
import Derived.Test.YtapdifpmijgkcaaG0
import Derived.Test.YtapdifpmijgkcaaG1
import Derived.Test.YtapdifpmijgkcaaG8
import Derived.Test.YtapdifpmijgkcaaG9
import Derived.Test.YtapdifpmijgkcaaG12
import Derived.Test.YtapdifpmijgkcaaG16
namespace Go.Proofs.Ytapdifpmijgkcaa.G
open Go.RowKit Go.Proofs.YtapdifpmijgkcaaW.PrintWords Go.Proofs.YtapdifpmijgkcaaW.PrintLast Go.Proofs.YtapdifpmijgkcaaW.PrintMore
attribute [local go_sem] max2_int min2_int max_two min_two max_three min_three max_four min_four   -- for this text's walks alone
set_option linter.unusedVariables false
set_option linter.unusedSimpArgs false


attribute [local go_sem high] eqA37
/-! ### imageeditorlaw14_SampleParts: function 4 -/
def imageeditorlaw14_SampleParts.j0 : Nat → Int → Bool → Int → Int → List (S37) → Int → Int → Int → Int → Int → Int → Int → Int → Int → Int → Int → Int → Int → Int → Int → Int → List (S37) → Option (Bool)
 | 0, _, _, _, _, _, _, _, _, _, _, _, _, _, _, _, _, _, _, _, _, _, _ => none
 | k + 1, x2, x30, L6, L7, L8, L9, Q0, Q1, Q2, Q3, Q4, L0, L1, Q5, Q6, Q7, Q8, Q9, E0a, L2, L3, L4 => if x30 = true then ((imageeditorlaw14_awake.f k).bind fun t520 => (if t520 = true then ((imageeditorlaw14_same.f k L2 L3 L4 0 0 ([] : List (S37))).bind fun t521 => (some t521)) else (some false))) else ((rect_Meet.f L0 L1 Q5 Q6 Q7 Q8 Q9 E0a).bind fun G0 => ((sample_Draw.f k L6 L7 L8 L9 Q0 Q1 Q2 Q3 Q4 x2 G0.1 G0.2.1 G0.2.2.1 G0.2.2.2).bind fun G1 => ((raster_Crop.f k L2 L3 L4 (wrap64 (G0.1 - L0)) (wrap64 (G0.2.1 - L1)) G0.2.2.1 G0.2.2.2).bind fun V7 => ((rect_Empty.f G0.1 G0.2.1 G0.2.2.1 G0.2.2.2).bind fun t541 => (if t541 = true then (if G1.2.2.2 = 0 then ((imageeditorlaw14_same.f k G1.1 G1.2.1 G1.2.2.1 0 0 ([] : List (S37))).bind fun t542 => (some t542)) else (some false)) else (if G1.2.2.2 = 0 then (if V7.2.2.2 = 0 then ((imageeditorlaw14_same.f k G1.1 G1.2.1 G1.2.2.1 V7.1 V7.2.1 V7.2.2.1).bind fun t543 => (some t543)) else (some false)) else (some false)))))))
def imageeditorlaw14_SampleParts.f (k : Nat) (a0_0 : Int) (a0_1 : Int) (l0_2 : List (S37)) (a1_0 : Int) (a1_1 : Int) (a1_2 : Int) (a1_3 : Int) (a1_4 : Int) (a1_5 : Int) (a2 : Int) (a3_0 : Int) (a3_1 : Int) (a3_2 : Int) (a3_3 : Int) (a4_0 : Int) (a4_1 : Int) (a4_2 : Int) (a4_3 : Int) : Option (Bool) := (sample_Draw.f k a0_0 a0_1 l0_2 a1_0 a1_1 a1_2 a1_3 a1_4 a1_5 a2 a3_0 a3_1 a3_2 a3_3).bind fun E9 => ((imageeditorlaw14_awake.f k).bind fun t519 => (if t519 = true then (imageeditorlaw14_SampleParts.j0 k a2 (E9.2.2.2 != 0) a0_0 a0_1 l0_2 a1_0 a1_1 a1_2 a1_3 a1_4 a1_5 a3_0 a3_1 a3_2 a3_3 a4_0 a4_1 a4_2 a4_3 E9.1 E9.2.1 E9.2.2.1) else (imageeditorlaw14_SampleParts.j0 k a2 true a0_0 a0_1 l0_2 a1_0 a1_1 a1_2 a1_3 a1_4 a1_5 a3_0 a3_1 a3_2 a3_3 a4_0 a4_1 a4_2 a4_3 E9.1 E9.2.1 E9.2.2.1)))
theorem imageeditorlaw14_SampleParts.mono_l : ∀ k, (∀ y0 y1 y2 y3 y4 y5 y6 y7 y8 y9 y10 y11 y12 y13 y14 y15 y16 y17 y18 y19 y20 y21, LeO (imageeditorlaw14_SampleParts.j0 k y0 y1 y2 y3 y4 y5 y6 y7 y8 y9 y10 y11 y12 y13 y14 y15 y16 y17 y18 y19 y20 y21) (imageeditorlaw14_SampleParts.j0 (k + 1) y0 y1 y2 y3 y4 y5 y6 y7 y8 y9 y10 y11 y12 y13 y14 y15 y16 y17 y18 y19 y20 y21))
 | 0 => fun _ _ _ _ _ _ _ _ _ _ _ _ _ _ _ _ _ _ _ _ _ _ r h => by simp [imageeditorlaw14_SampleParts.j0] at h
 | k + 1 => by
  have ih0 := imageeditorlaw14_SampleParts.mono_l k
  ·intro y0 y1 y2 y3 y4 y5 y6 y7 y8 y9 y10 y11 y12 y13 y14 y15 y16 y17 y18 y19 y20 y21
   unfold imageeditorlaw14_SampleParts.j0
   repeat' first
   | (with_reducible exact ih0 _ _ _ _ _ _ _ _ _ _ _ _ _ _ _ _ _ _ _ _ _ _)
   | (with_reducible exact imageeditorlaw14_awake.mono _)
   | (with_reducible exact imageeditorlaw14_same.mono _ _ _ _ _ _ _)
   | (with_reducible exact raster_Crop.mono _ _ _ _ _ _ _ _)
   | (with_reducible exact sample_Draw.mono _ _ _ _ _ _ _ _ _ _ _ _ _ _ _)
   | (with_reducible exact LeO.refl _)
   | (with_reducible exact LeO.none _)
   | (with_reducible refine LeO.ite ?_ ?_)
   | (with_reducible refine LeO.bind ?_ (fun _ => ?_))
   | exact ih0 _ _ _ _ _ _ _ _ _ _ _ _ _ _ _ _ _ _ _ _ _ _
   | exact imageeditorlaw14_awake.mono _
   | exact imageeditorlaw14_same.mono _ _ _ _ _ _ _
   | exact raster_Crop.mono _ _ _ _ _ _ _ _
   | exact sample_Draw.mono _ _ _ _ _ _ _ _ _ _ _ _ _ _ _
   | exact LeO.none _
   | refine LeO.ite ?_ ?_
   | refine LeO.bind ?_ (fun _ => ?_)
theorem imageeditorlaw14_SampleParts.mono : ∀ a0 a1 a2 a3 a4 a5 a6 a7 a8 a9 a10 a11 a12 a13 a14 a15 a16 a17 k, LeO (imageeditorlaw14_SampleParts.f k a0 a1 a2 a3 a4 a5 a6 a7 a8 a9 a10 a11 a12 a13 a14 a15 a16 a17) (imageeditorlaw14_SampleParts.f (k + 1) a0 a1 a2 a3 a4 a5 a6 a7 a8 a9 a10 a11 a12 a13 a14 a15 a16 a17) := by
 intro a0 a1 a2 a3 a4 a5 a6 a7 a8 a9 a10 a11 a12 a13 a14 a15 a16 a17 k
 have ih0 := imageeditorlaw14_SampleParts.mono_l k
 unfold imageeditorlaw14_SampleParts.f
 repeat' first
   | (with_reducible exact ih0 _ _ _ _ _ _ _ _ _ _ _ _ _ _ _ _ _ _ _ _ _ _)
   | (with_reducible exact imageeditorlaw14_awake.mono _)
   | (with_reducible exact imageeditorlaw14_same.mono _ _ _ _ _ _ _)
   | (with_reducible exact raster_Crop.mono _ _ _ _ _ _ _ _)
   | (with_reducible exact sample_Draw.mono _ _ _ _ _ _ _ _ _ _ _ _ _ _ _)
   | (with_reducible exact LeO.refl _)
   | (with_reducible exact LeO.none _)
   | (with_reducible refine LeO.ite ?_ ?_)
   | (with_reducible refine LeO.bind ?_ (fun _ => ?_))
   | exact ih0 _ _ _ _ _ _ _ _ _ _ _ _ _ _ _ _ _ _ _ _ _ _
   | exact imageeditorlaw14_awake.mono _
   | exact imageeditorlaw14_same.mono _ _ _ _ _ _ _
   | exact raster_Crop.mono _ _ _ _ _ _ _ _
   | exact sample_Draw.mono _ _ _ _ _ _ _ _ _ _ _ _ _ _ _
   | exact LeO.none _
   | refine LeO.ite ?_ ?_
   | refine LeO.bind ?_ (fun _ => ?_)
set_option maxHeartbeats 8000000 in
set_option maxRecDepth 100000 in
theorem imageeditorlaw14_SampleParts.callsT (k : Nat) (a0_0 : Int) (a0_1 : Int) (A0_2 : Option Addr) (c0_2 : Nat) (l0_2 : List (S37)) (a1_0 : Int) (a1_1 : Int) (a1_2 : Int) (a1_3 : Int) (a1_4 : Int) (a1_5 : Int) (a2 : Int) (a3_0 : Int) (a3_1 : Int) (a3_2 : Int) (a3_3 : Int) (a4_0 : Int) (a4_1 : Int) (a4_2 : Int) (a4_3 : Int) (r : Bool) (w : World) (hr0_2 : Kd.C k37 w A0_2 l0_2.length l0_2) (hc0_2 : l0_2.length ≤ c0_2) (hT : r = true) (h : imageeditorlaw14_SampleParts.f k a0_0 a0_1 l0_2 a1_0 a1_1 a1_2 a1_3 a1_4 a1_5 a2 a3_0 a3_1 a3_2 a3_3 a4_0 a4_1 a4_2 a4_3 = some r) :
  Calls Try.prog 4 #[.agg #[.int .i64 a0_0, .int .i64 a0_1, .slice A0_2 l0_2.length c0_2], .agg #[.int .i64 a1_0, .int .i64 a1_1, .int .i64 a1_2, .int .i64 a1_3, .int .i64 a1_4, .int .i64 a1_5], .int .i64 a2, .agg #[.int .i64 a3_0, .int .i64 a3_1, .int .i64 a3_2, .int .i64 a3_3], .agg #[.int .i64 a4_0, .int .i64 a4_1, .int .i64 a4_2, .int .i64 a4_3]] w fun e w' => e = .returned (.bool r) ∧ Below w.heap.size w w' := by
 have hu24 := Try.underlying24
 have hu32 := Try.underlying32
 have hu27 := Try.underlying27
 have HT := Aside0.mk hT
 clear hT
 have V8 := Aside0.mk hr0_2
 have V9 := Aside0.mk hc0_2
 clear hr0_2 hc0_2
 have HB := Aside0.mk (Below.refl w.heap.size w)
 have H : ((sample_Draw.f k a0_0 a0_1 l0_2 a1_0 a1_1 a1_2 a1_3 a1_4 a1_5 a2 a3_0 a3_1 a3_2 a3_3).bind fun E9 => ((imageeditorlaw14_awake.f k).bind fun t519 => (if t519 = true then (imageeditorlaw14_SampleParts.j0 k a2 (E9.2.2.2 != 0) a0_0 a0_1 l0_2 a1_0 a1_1 a1_2 a1_3 a1_4 a1_5 a3_0 a3_1 a3_2 a3_3 a4_0 a4_1 a4_2 a4_3 E9.1 E9.2.1 E9.2.2.1) else (imageeditorlaw14_SampleParts.j0 k a2 true a0_0 a0_1 l0_2 a1_0 a1_1 a1_2 a1_3 a1_4 a1_5 a3_0 a3_1 a3_2 a3_3 a4_0 a4_1 a4_2 a4_3 E9.1 E9.2.1 E9.2.2.1)))) = some r := h
 clear h
 replace H := Option.bind_eq_some_iff.mp H
 obtain ⟨⟨t512, t513, t514, t517⟩, A60, H⟩ := H
 try dsimp only at H
 have A6 := Aside0.mk A60
 clear A60
 have HC7 := Aside0.mk H
 clear H
 go_enter Try.func4, Try.ntmps4
 go_upto_region 2 with (first | ((with_reducible refine gate_dst (N := 5) rfl ?_); refine box_event ?hg (N := 5) ?hd (cs := #[.int .i64 a0_0, .int .i64 a0_1, .slice A0_2 l0_2.length c0_2]) (t := 24) ?hr ?_; (case hd => rfl); (case hg => rfl); (case hr => first | (go_simp; done) | (go_simp; rfl)); intro E0b hg w8 hbox hb; have E0U := zg HB hg; have E0V := zg HB hg; have n0_ := Aside0.mk (hbox); replace HB := zb HB hb; have E2 := n0_; clear n0_; clear hb hbox hg) | ((with_reducible refine gate_dst (N := 6) rfl ?_); refine box_event ?hg (N := 6) ?hd (cs := #[.int .i64 a1_0, .int .i64 a1_1, .int .i64 a1_2, .int .i64 a1_3, .int .i64 a1_4, .int .i64 a1_5]) (t := 32) ?hr ?_; (case hd => rfl); (case hg => rfl); (case hr => first | (go_simp; done) | (go_simp; rfl)); intro E0c hg w9 hbox hb; have E0W := zg HB hg; have E0X := zg HB hg; have Y0 := zn E2 hg; have Y1 := zn' E2 hg; have n0_ := Aside0.mk (hbox); replace E2 := zk E2 hb; replace HB := zb HB hb; have E3 := n0_; clear n0_; clear hb hbox hg) | ((with_reducible refine gate_dst (N := 8) rfl ?_); refine box_event ?hg (N := 8) ?hd (cs := #[.int .i64 a3_0, .int .i64 a3_1, .int .i64 a3_2, .int .i64 a3_3]) (t := 27) ?hr ?_; (case hd => rfl); (case hg => rfl); (case hr => first | (go_simp; done) | (go_simp; rfl)); intro E0d hg w10 hbox hb; have E0Y := zg HB hg; have E0Z := zg HB hg; have Y2 := zn E2 hg; have Y3 := zn' E2 hg; have Y4 := zn E3 hg; have Y5 := zn' E3 hg; have n0_ := Aside0.mk (hbox); replace E2 := zk E2 hb; replace E3 := zk E3 hb; replace HB := zb HB hb; have E0 := n0_; clear n0_; clear hb hbox hg) | ((with_reducible refine gate_dst (N := 9) rfl ?_); refine box_event ?hg (N := 9) ?hd (cs := #[.int .i64 a4_0, .int .i64 a4_1, .int .i64 a4_2, .int .i64 a4_3]) (t := 27) ?hr ?_; (case hd => rfl); (case hg => rfl); (case hr => first | (go_simp; done) | (go_simp; rfl)); intro E0e hg w11 hbox hb; have E1a := zg HB hg; have E1b := zg HB hg; have Y6 := zn E2 hg; have Y7 := zn' E2 hg; have Y8 := zn E3 hg; have Y9 := zn' E3 hg; have Z0 := zn E0 hg; have Z1 := zn' E0 hg; have n0_ := Aside0.mk (hbox); replace E2 := zk E2 hb; replace E3 := zk E3 hb; replace E0 := zk E0 hb; replace HB := zb HB hb; have E7 := n0_; clear n0_; clear hb hbox hg; have E1c := Y0.out; have E1d := Y1.out; have E1e := Y2.out; have E1f := Y3.out; have E1g := Y6.out; have E1h := Y7.out; obtain ⟨E0f, E0g, E0h, E0i, E0j, E0k⟩ := zq3 E2; have E1i := Y4.out; have E1j := Y5.out; have E1k := Y8.out; have E1l := Y9.out; obtain ⟨E0l, E0m, E0n, E0o, E0p, E0q, E0r, E0s, E0t, E0u, E0v, E0w⟩ := zq6 E3; have E1m := Z0.out; have E1n := Z1.out; obtain ⟨E0x, E0y, E0z, E0A, E0B, E0C, E0D, E0E⟩ := zq4 E0) | ((with_reducible refine gate_callee (f := 9) rfl ?_); refine goesL_ (some 22) rfl rfl Try.func9 (by kernel_rfl) rfl #[.agg #[.int .i64 a0_0, .int .i64 a0_1, .slice A0_2 l0_2.length c0_2], .agg #[.int .i64 a1_0, .int .i64 a1_1, .int .i64 a1_2, .int .i64 a1_3, .int .i64 a1_4, .int .i64 a1_5], .int .i64 a2, .agg #[.int .i64 a3_0, .int .i64 a3_1, .int .i64 a3_2, .int .i64 a3_3]] rfl (by (try simp only [List.map_toArray, List.map_cons, List.map_nil]); first | done | rfl | (simp only [List.length_drop, List.length_take]; rfl)) ?_; (with_reducible refine (sample_Draw.calls k a0_0 a0_1 _ _ l0_2 a1_0 a1_1 a1_2 a1_3 a1_4 a1_5 a2 a3_0 a3_1 a3_2 a3_3 t512 t513 t514 t517 _ ?side1 ?side2 A6.out).mono ?_); (case side1 => repeat (first | exact (Kd.C_below V8.out HB.out) | (with_reducible refine Kd.C_alloc ?_ _) | (with_reducible refine Kd.C_drewN ?_ _) | (with_reducible refine Kd.C_drew ?_))); (case side2 => exact V9.out); rintro e w21 ⟨v515, rfl, ho0, hb⟩; refine ⟨_, rfl, ?_⟩; have HO516 := zl HB ho0; replace E2 := zk E2 hb; replace E3 := zk E3 hb; replace E0 := zk E0 hb; replace E7 := zk E7 hb; replace HB := zb HB hb; (try clear hb); (try clear hb2); (try clear hk); (try clear hi); (try clear ho0)) | ((with_reducible refine gate_dst (N := 11) rfl ?_); refine box_event ?hg (N := 11) ?hd (cs := #[.int .i64 0, .int .i64 0, .slice none 0 0]) (t := 24) ?hr ?_; (case hd => rfl); (case hg => rfl); (case hr => first | (go_simp; done) | (go_simp; rfl)); intro Z2 hg w22 hbox hb; have E1o := zg HB hg; have L5 := zg HB hg; have G3 := zn E2 hg; have Z3 := zn' E2 hg; have G4 := zn E3 hg; have Z4 := zn' E3 hg; have G5 := zn E0 hg; have Z5 := zn' E0 hg; have G6 := zn E7 hg; have Z6 := zn' E7 hg; have n0_ := Aside0.mk (hbox); replace HO516 := zr HO516 hb; replace E2 := zk E2 hb; replace E3 := zk E3 hb; replace E0 := zk E0 hb; replace E7 := zk E7 hb; replace HB := zb HB hb; have E1 := n0_; clear n0_; clear hb hbox hg; have E1p := Z3.out; have E1q := G3.out; have E1r := Z4.out; have E1s := G4.out; have E1t := Z5.out; have E1u := G5.out; have E1v := Z6.out; have E1w := G6.out; obtain ⟨E0F, E0G, E0H, E0I, E0J, E0K⟩ := zq3 E1; obtain ⟨Ao28, co28, eo28⟩ := Kd.R_slice HO516.out; subst eo28))
 (try simp only [Act.put, sA, sB, sC])
 go_cut [30] (fun v30 wc => ∃ (kq : Nat) (x30_6 : Bool), v30 = .bool x30_6 ∧ Aside0 (imageeditorlaw14_SampleParts.j0 kq a2 x30_6 a0_0 a0_1 l0_2 a1_0 a1_1 a1_2 a1_3 a1_4 a1_5 a3_0 a3_1 a3_2 a3_3 a4_0 a4_1 a4_2 a4_3 t512 t513 t514 = some r) ∧ Aside0 (kq ≤ k) ∧ Aside0 (Kd.R k37 37 wc w.heap.size (fun _ => True) (.slice Ao28 t514.length co28) t514) ∧ Aside0 (wc.heap[E0b]? = some (.cells #[.int .i64 a0_0, .int .i64 a0_1, (.slice A0_2 l0_2.length c0_2)] 24 (0, 0))) ∧ Aside0 (wc.heap[E0c]? = some (.cells #[.int .i64 a1_0, .int .i64 a1_1, .int .i64 a1_2, .int .i64 a1_3, .int .i64 a1_4, .int .i64 a1_5] 32 (0, 0))) ∧ Aside0 (wc.heap[E0d]? = some (.cells #[.int .i64 a3_0, .int .i64 a3_1, .int .i64 a3_2, .int .i64 a3_3] 27 (0, 0))) ∧ Aside0 (wc.heap[E0e]? = some (.cells #[.int .i64 a4_0, .int .i64 a4_1, .int .i64 a4_2, .int .i64 a4_3] 27 (0, 0))) ∧ Aside0 (wc.heap[Z2]? = some (.cells #[.int .i64 t512, .int .i64 t513, (.slice Ao28 t514.length co28)] 24 (0, 0))) ∧ Aside0 (Below w.heap.size w wc))
 case first =>
  have H := HC7.out
  clear HC7
  replace H := Option.bind_eq_some_iff.mp H
  obtain ⟨t519, A290, H⟩ := H
  try dsimp only at H
  have A29 := Aside0.mk A290
  clear A290
  by_cases c30 : t519 = true
  ·subst c30
   rw [if_pos rfl] at H
   as_aux_lemma =>
    have H' := Aside0.mk H
    clear H
    go_wp2_with (first | ((with_reducible refine gate_callee (f := 10) rfl ?_); refine goesL_ (some 25) rfl rfl Try.func10 (by kernel_rfl) rfl #[] rfl (by (try simp only [List.map_toArray, List.map_cons, List.map_nil]); first | done | rfl | (simp only [List.length_drop, List.length_take]; rfl)) ?_; (with_reducible refine (imageeditorlaw14_awake.calls k  true _ A29.out).mono ?_); rintro e w31 ⟨rfl, hb⟩; refine ⟨_, rfl, ?_⟩; have n0_ := Aside0.mk (Kd.R_below (by exact zro HO516 E1 (by decide)) hb); have n1_ := Aside0.mk (blk_below (g := Z2) (o := .cells #[.int .i64 t512, .int .i64 t513, .slice Ao28 t514.length co28] 24 (0, 0)) (by exact zp E1 rfl) hb); have n2_ := Aside0.mk (below_step (by exact zbo HB L5) hb); replace E2 := zfk E2 G3 hb; replace E3 := zfk E3 G4 hb; replace E0 := zfk E0 G5 hb; replace E7 := zfk E7 G6 hb; clear HO516; clear E1; clear HB; have HO516 := n0_; have E1 := n1_; have HB := n2_; clear n0_ n1_ n2_; (try clear hb)))
    go_meet
    case rel => exact ⟨_, ((t517 != 0)), (by first | rfl | (simp; done) | (simp [*]; done)), H', ⟨by first | omega | exact Nat.le_refl _⟩, ⟨by exact zr0 HO516⟩, ⟨by exact zk0 E2⟩, ⟨by exact zk0 E3⟩, ⟨by exact zk0 E0⟩, ⟨by exact zk0 E7⟩, ⟨by exact zk0 E1⟩, ⟨by exact zb0 HB⟩⟩
  replace c30 := Bool.eq_false_iff.mpr c30
  subst c30
  rw [if_neg (show ¬ (false = true) by decide)] at H
  as_aux_lemma =>
   have H' := Aside0.mk H
   clear H
   go_wp2_with (first | ((with_reducible refine gate_callee (f := 10) rfl ?_); refine goesL_ (some 25) rfl rfl Try.func10 (by kernel_rfl) rfl #[] rfl (by (try simp only [List.map_toArray, List.map_cons, List.map_nil]); first | done | rfl | (simp only [List.length_drop, List.length_take]; rfl)) ?_; (with_reducible refine (imageeditorlaw14_awake.calls k  false _ A29.out).mono ?_); rintro e w32 ⟨rfl, hb⟩; refine ⟨_, rfl, ?_⟩; have n0_ := Aside0.mk (Kd.R_below (by exact zro HO516 E1 (by decide)) hb); have n1_ := Aside0.mk (blk_below (g := Z2) (o := .cells #[.int .i64 t512, .int .i64 t513, .slice Ao28 t514.length co28] 24 (0, 0)) (by exact zp E1 rfl) hb); have n2_ := Aside0.mk (below_step (by exact zbo HB L5) hb); replace E2 := zfk E2 G3 hb; replace E3 := zfk E3 G4 hb; replace E0 := zfk E0 G5 hb; replace E7 := zfk E7 G6 hb; clear HO516; clear E1; clear HB; have HO516 := n0_; have E1 := n1_; have HB := n2_; clear n0_ n1_ n2_; (try clear hb)))
   go_meet
   case rel => exact ⟨_, (true), (by first | rfl | (simp; done) | (simp [*]; done)), H', ⟨by first | omega | exact Nat.le_refl _⟩, ⟨by exact zr0 HO516⟩, ⟨by exact zk0 E2⟩, ⟨by exact zk0 E3⟩, ⟨by exact zk0 E0⟩, ⟨by exact zk0 E7⟩, ⟨by exact zk0 E1⟩, ⟨by exact zb0 HB⟩⟩
 case rest =>
  clear HC7
  try clear c1
  try clear c2
  try clear p2
  try clear c3
  try clear q3
  try clear c4
  try clear q4
  try clear q6
  try clear c9
  try clear c10
  try clear c12
  try clear c13
  try clear c14
  try clear c16
  try clear c17
  try clear c19
  try clear c23
  try clear c24
  try clear c25
  try clear c26
  try clear c30
  try clear E0f
  try clear E0g
  try clear E0h
  try clear E0l
  try clear E0m
  try clear E0n
  try clear E0o
  try clear E0p
  try clear E0q
  try clear E0x
  try clear E0y
  try clear E0z
  try clear E0A
  try clear E0F
  try clear E0G
  try clear E0H
  try clear E0i
  try clear E0j
  try clear E0k
  try clear E0r
  try clear E0s
  try clear E0t
  try clear E0u
  try clear E0v
  try clear E0w
  try clear E0B
  try clear E0C
  try clear E0D
  try clear E0E
  try clear E0I
  try clear E0J
  try clear E0K
  obtain ⟨kq, x30_6, rfl, HA, HJ6, E5, E2, E3, E0, E7, E1, HB⟩ := hcut
  cases kq with
  | zero => exact absurd HA.out (by simp [imageeditorlaw14_SampleParts.j0])
  | succ kj6 =>
   have H := HA.out
   clear HA
   simp only [imageeditorlaw14_SampleParts.j0] at H
   by_cases c33 : x30_6 = true
   ·subst c33
    rw [if_pos rfl] at H
    replace H := Option.bind_eq_some_iff.mp H
    obtain ⟨t520, A340, H⟩ := H
    try dsimp only at H
    have A34 := Aside0.mk A340
    clear A340
    by_cases c35 : t520 = true
    ·subst c35
     rw [if_pos rfl] at H
     replace H := Option.bind_eq_some_iff.mp H
     obtain ⟨t521, A360, H⟩ := H
     try dsimp only at H
     have A36 := Aside0.mk A360
     clear A360
     as_aux_lemma =>
      obtain rfl := Option.some.inj H
      (try clear E2)
      (try clear E3)
      (try clear E0)
      (try clear E7)
      go_wp2_with (first | ((with_reducible refine gate_callee (f := 10) rfl ?_); refine goesL_ (some 31) rfl rfl Try.func10 (by kernel_rfl) rfl #[] rfl (by (try simp only [List.map_toArray, List.map_cons, List.map_nil]); first | done | rfl | (simp only [List.length_drop, List.length_take]; rfl)) ?_; (with_reducible refine (imageeditorlaw14_awake.calls kj6  true _ A34.out).mono ?_); rintro e w37 ⟨rfl, hb⟩; refine ⟨_, rfl, ?_⟩; replace E5 := zr E5 hb; replace E1 := zk E1 hb; replace HB := zb HB hb; (try clear hb); obtain ⟨E1x, E1y, E1z, E1A, E1B, E1C⟩ := zq3 E1; (try clear E1)) | (go_at_call 14; (refine (imageeditorlaw14_same.calls kj6 t512 t513 _ _ t514 0 0 _ _ ([] : List (S37)) t521 _ ?side1 ?side2 ?side3 ?side4 A36.out).mono ?_); (case side1 => repeat (first | exact (Kd.R_reads' E5.out).2.2 | (with_reducible refine Kd.C_alloc ?_ _) | (with_reducible refine Kd.C_drewN ?_ _) | (with_reducible refine Kd.C_drew ?_))); (case side2 => exact (Kd.R_reads' E5.out).2.1); (case side3 => exact Kd.C_nil _ _); (case side4 => exact Nat.le_refl _); rintro e w39 ⟨rfl, hb⟩; replace E5 := zr E5 hb; replace HB := zb HB hb; (try clear hb)))
      go_ret
      exact ⟨by first | rfl | (simp [errW_none, errW_some] <;> rfl) | (simp [*, errW_none, errW_some] <;> rfl), by exact zb0 HB⟩
    replace c35 := Bool.eq_false_iff.mpr c35
    subst c35
    rw [if_neg (show ¬ (false = true) by decide)] at H
    as_aux_lemma =>
     exact absurd HT.out (by rw [← Option.some.inj H]; decide)
   replace c33 := Bool.eq_false_iff.mpr c33
   subst c33
   rw [if_neg (show ¬ (false = true) by decide)] at H
   replace H := Option.bind_eq_some_iff.mp H
   obtain ⟨⟨t522, t523, t524, t525⟩, A400, H⟩ := H
   try dsimp only at H
   have A40 := Aside0.mk A400
   clear A400
   replace H := Option.bind_eq_some_iff.mp H
   obtain ⟨⟨t527, t528, t529, t532⟩, A410, H⟩ := H
   try dsimp only at H
   have A41 := Aside0.mk A410
   clear A410
   replace H := Option.bind_eq_some_iff.mp H
   obtain ⟨⟨t534, t535, t536, t539⟩, A420, H⟩ := H
   try dsimp only at H
   have A42 := Aside0.mk A420
   clear A420
   replace H := Option.bind_eq_some_iff.mp H
   obtain ⟨t541, A430, H⟩ := H
   try dsimp only at H
   have A43 := Aside0.mk A430
   clear A430
   by_cases c44 : t541 = true
   ·subst c44
    rw [if_pos rfl] at H
    by_cases c45 : t532 = 0
    rotate_left
    ·rw [if_neg c45] at H
     have E0L : (t532 == 0) = false := beq_eq_false_iff_ne.mpr c45
     have E0M : (t532 != 0) = true := bne_iff_ne.mpr c45
     as_aux_lemma =>
      exact absurd HT.out (by rw [← Option.some.inj H]; decide)
    rw [if_pos c45] at H
    have E0L : (t532 == 0) = true := beq_iff_eq.mpr c45
    have E0M : (t532 != 0) = false := bne_eq_false_iff_eq.mpr c45
    clear c45
    replace H := Option.bind_eq_some_iff.mp H
    obtain ⟨t542, A460, H⟩ := H
    try dsimp only at H
    have A46 := Aside0.mk A460
    clear A460
    as_aux_lemma =>
     obtain rfl := Option.some.inj H
     have E1D := Y3.out
     have E1E := Y2.out
     have E1F := Y5.out
     have E1G := Y4.out
     have E1H := Z0.out
     have E1I := Z1.out
     have E1J := G5.out
     have E1K := Z5.out
     obtain ⟨E1L, E1M, E1N, E1O, E1P, E1Q, E1R, E1S⟩ := zq4 E0
     have E1T := Y7.out
     have E1U := Y6.out
     have E1V := Y9.out
     have E1W := Y8.out
     have E1X := G6.out
     have E1Y := Z6.out
     obtain ⟨E1Z, E2a, E2b, E2c, E2d, E2e, E2f, E2g⟩ := zq4 E7
     (try clear E7)
     go_wp2_with (first | ((with_reducible refine gate_callee (f := 15) rfl ?_); refine goesL_ (some 39) rfl rfl Try.func15 (by kernel_rfl) rfl #[.agg #[.int .i64 a3_0, .int .i64 a3_1, .int .i64 a3_2, .int .i64 a3_3], .agg #[.int .i64 a4_0, .int .i64 a4_1, .int .i64 a4_2, .int .i64 a4_3]] rfl (by (try simp only [List.map_toArray, List.map_cons, List.map_nil]); first | done | rfl | (simp only [List.length_drop, List.length_take]; rfl)) ?_; (with_reducible refine (rect_Meet.calls a3_0 a3_1 a3_2 a3_3 a4_0 a4_1 a4_2 a4_3 t522 t523 t524 t525 _ A40.out).mono ?_); rintro e w56 ⟨rfl, hb⟩; refine ⟨_, rfl, ?_⟩; replace E5 := zr E5 hb; replace E2 := zk E2 hb; replace E3 := zk E3 hb; replace E0 := zk E0 hb; replace E1 := zk E1 hb; replace HB := zb HB hb; (try clear hb)) | ((with_reducible refine gate_dst (N := 13) rfl ?_); refine box_event ?hg (N := 13) ?hd (cs := #[.int .i64 0, .int .i64 0, .int .i64 0, .int .i64 0]) (t := 27) ?hr ?_; (case hd => rfl); (case hg => rfl); (case hr => first | (go_simp; done) | (go_simp; rfl)); intro Z7 hg w57 hbox hb; have E0N := zg HB hg; have G2 := zg HB hg; have G7 := zn E2 hg; have Z8 := zn' E2 hg; have G8 := zn E3 hg; have Z9 := zn' E3 hg; have G9 := zn E0 hg; have J0 := zn' E0 hg; have V0 := zn E1 hg; have J1 := zn' E1 hg; have n0_ := Aside0.mk (hbox); replace E5 := zr E5 hb; replace E2 := zk E2 hb; replace E3 := zk E3 hb; replace E0 := zk E0 hb; replace E1 := zk E1 hb; replace HB := zb HB hb; have E4 := n0_; clear n0_; clear hb hbox hg; have E2h := Z8.out; have E2i := G7.out; have E2j := Z9.out; have E2k := G8.out; have E2l := J0.out; have E2m := G9.out; have E2n := J1.out; have E2o := V0.out; obtain ⟨E2p, E2q, E2r, E2s, E2t, E2u, E2v, E2w⟩ := zq4 E4; have E2x := Y0.out; have E2y := Y1.out; have E2z := G3.out; have E2A := Z3.out; obtain ⟨E2B, E2C, E2D, E2E, E2F, E2G⟩ := zq3 E2; have E2H := G4.out; have E2I := Z4.out; obtain ⟨E2J, E2K, E2L, E2M, E2N, E2O, E2P, E2Q, E2R, E2S, E2T, E2U⟩ := zq6 E3) | ((with_reducible refine gate_callee (f := 9) rfl ?_); refine goesL_ (some 45) rfl rfl Try.func9 (by kernel_rfl) rfl #[.agg #[.int .i64 a0_0, .int .i64 a0_1, .slice A0_2 l0_2.length c0_2], .agg #[.int .i64 a1_0, .int .i64 a1_1, .int .i64 a1_2, .int .i64 a1_3, .int .i64 a1_4, .int .i64 a1_5], .int .i64 a2, .agg #[.int .i64 t522, .int .i64 t523, .int .i64 t524, .int .i64 t525]] rfl (by (try simp only [List.map_toArray, List.map_cons, List.map_nil]); first | done | rfl | (simp only [List.length_drop, List.length_take]; rfl)) ?_; (with_reducible refine (sample_Draw.calls kj6 a0_0 a0_1 _ _ l0_2 a1_0 a1_1 a1_2 a1_3 a1_4 a1_5 a2 t522 t523 t524 t525 t527 t528 t529 t532 _ ?side1 ?side2 A41.out).mono ?_); (case side1 => exact Kd.C_below V8.out (by exact zbo HB G2)); (case side2 => exact V9.out); rintro e w68 ⟨v530, rfl, ho0, hb⟩; refine ⟨_, rfl, ?_⟩; have n0_ := Aside0.mk (Kd.R_below (by exact zro E5 E4 (by decide)) hb); have n1_ := Aside0.mk (Kd.R_lower ho0 (below_size (by exact zbo HB G2))); have n2_ := Aside0.mk (blk_below (g := Z7) (o := .cells #[.int .i64 t522, .int .i64 t523, .int .i64 t524, .int .i64 t525] 27 (0, 0)) (by exact zp E4 rfl) hb); have n3_ := Aside0.mk (below_step (by exact zbo HB G2) hb); replace E2 := zfk E2 G7 hb; replace E3 := zfk E3 G8 hb; replace E0 := zfk E0 G9 hb; replace E1 := zfk E1 V0 hb; clear E5; clear E4; clear HB; have E5 := n0_; have HO531 := n1_; have E4 := n2_; have HB := n3_; clear n0_ n1_ n2_ n3_; (try clear hb); (try clear ho0); (try clear E2); (try clear E3)) | ((with_reducible refine gate_dst (N := 14) rfl ?_); refine box_event ?hg (N := 14) ?hd (cs := #[.int .i64 0, .int .i64 0, .slice none 0 0]) (t := 24) ?hr ?_; (case hd => rfl); (case hg => rfl); (case hr => first | (go_simp; done) | (go_simp; rfl)); intro J2 hg w69 hbox hb; have E0O := zg HB hg; have V1 := zg HB hg; have V2 := zn E0 hg; have J3 := zn' E0 hg; have V3 := zn E1 hg; have J4 := zn' E1 hg; have V4 := zn E4 hg; have J5 := zn' E4 hg; have n0_ := Aside0.mk (hbox); replace E5 := zr E5 hb; replace HO531 := zr HO531 hb; replace E0 := zk E0 hb; replace E1 := zk E1 hb; replace E4 := zk E4 hb; replace HB := zb HB hb; have E6 := n0_; clear n0_; clear hb hbox hg; have E2V := J3.out; have E2W := V2.out; have E2X := J4.out; have E2Y := V3.out; have E2Z := J5.out; have E3a := V4.out; obtain ⟨E3b, E3c, E3d, E3e, E3f, E3g⟩ := zq3 E6; obtain ⟨Ao74, co74, eo74⟩ := Kd.R_slice HO531.out; subst eo74; obtain ⟨E3h, E3i, E3j, E3k, E3l, E3m⟩ := zq3 E1; obtain ⟨E3n, E3o, E3p, E3q, E3r, E3s, E3t, E3u⟩ := zq4 E4; obtain ⟨E3v, E3w, E3x, E3y, E3z, E3A, E3B, E3C⟩ := zq4 E0) | ((with_reducible refine gate_callee (f := 16) rfl ?_); refine goesL_ (some 65) rfl rfl Try.func16 (by kernel_rfl) rfl #[.agg #[.int .i64 t512, .int .i64 t513, .slice Ao28 t514.length co28], .agg #[.int .i64 (wrap64 (t522 - a3_0)), .int .i64 (wrap64 (t523 - a3_1)), .int .i64 t524, .int .i64 t525]] rfl (by (try simp only [List.map_toArray, List.map_cons, List.map_nil]); first | done | rfl | (simp only [List.length_drop, List.length_take]; rfl)) ?_; (with_reducible refine (raster_Crop.calls kj6 t512 t513 _ _ t514 (wrap64 (t522 - a3_0)) (wrap64 (t523 - a3_1)) t524 t525 t534 t535 t536 t539 _ ?side1 ?side2 A42.out).mono ?_); (case side1 => refine (Kd.R_reads' (e := 37) (base := w.heap.size) (ok := fun k_ => True) (n := t514.length) (c := co28) ?_).2.2; exact (by exact zro E5 E6 (by decide))); (case side2 => exact (Kd.R_reads' E5.out).2.1); rintro e w78 ⟨v537, rfl, ho0, hb⟩; refine ⟨_, rfl, ?_⟩; have n0_ := Aside0.mk (Kd.R_below (by exact zro E5 E6 (by decide)) hb); have n1_ := Aside0.mk (Kd.R_below (by exact zro HO531 E6 (by decide)) hb); have n2_ := Aside0.mk (Kd.R_lower ho0 (below_size (by exact zbo HB V1))); have n3_ := Aside0.mk (blk_below (g := J2) (o := .cells #[.int .i64 t527, .int .i64 t528, .slice Ao74 t529.length co74] 24 (0, 0)) (by exact zp E6 rfl) hb); have n4_ := Aside0.mk (below_step (by exact zbo HB V1) hb); replace E0 := zfk E0 V2 hb; replace E1 := zfk E1 V3 hb; replace E4 := zfk E4 V4 hb; clear E5; clear HO531; clear E6; clear HB; have E5 := n0_; have HO531 := n1_; have HO538 := n2_; have E6 := n3_; have HB := n4_; clear n0_ n1_ n2_ n3_ n4_; (try clear hb); (try clear ho0); (try clear E5); (try clear E0); (try clear E1)) | ((with_reducible refine gate_dst (N := 15) rfl ?_); refine box_event ?hg (N := 15) ?hd (cs := #[.int .i64 0, .int .i64 0, .slice none 0 0]) (t := 24) ?hr ?_; (case hd => rfl); (case hg => rfl); (case hr => first | (go_simp; done) | (go_simp; rfl)); intro J6 hg w79 hbox hb; have E0P := zg HB hg; have J7 := zg HB hg; have V5 := zn E4 hg; have J8 := zn' E4 hg; have V6 := zn E6 hg; have J9 := zn' E6 hg; have n0_ := Aside0.mk (hbox); replace HO531 := zr HO531 hb; replace HO538 := zr HO538 hb; replace E4 := zk E4 hb; replace E6 := zk E6 hb; replace HB := zb HB hb; have E8 := n0_; clear n0_; clear hb hbox hg; have E3D := J8.out; have E3E := V5.out; have E3F := J9.out; have E3G := V6.out; obtain ⟨E3H, E3I, E3J, E3K, E3L, E3M⟩ := zq3 E8; obtain ⟨Ao83, co83, eo83⟩ := Kd.R_slice HO538.out; subst eo83; obtain ⟨E3N, E3O, E3P, E3Q, E3R, E3S, E3T, E3U⟩ := zq4 E4) | ((with_reducible refine gate_callee (f := 12) rfl ?_); refine goesL_ (some 69) rfl rfl Try.func12 (by kernel_rfl) rfl #[.agg #[.int .i64 t522, .int .i64 t523, .int .i64 t524, .int .i64 t525]] rfl (by (try simp only [List.map_toArray, List.map_cons, List.map_nil]); first | done | rfl | (simp only [List.length_drop, List.length_take]; rfl)) ?_; (with_reducible refine (rect_Empty.calls t522 t523 t524 t525 true _ A43.out).mono ?_); rintro e w85 ⟨rfl, hb⟩; refine ⟨_, rfl, ?_⟩; have n0_ := Aside0.mk (Kd.R_below (by exact zro HO531 E8 (by decide)) hb); have n1_ := Aside0.mk (Kd.R_below (by exact zro HO538 E8 (by decide)) hb); have n2_ := Aside0.mk (blk_below (g := J6) (o := .cells #[.int .i64 t534, .int .i64 t535, .slice Ao83 t536.length co83] 24 (0, 0)) (by exact zp E8 rfl) hb); have n3_ := Aside0.mk (below_step (by exact zbo HB J7) hb); replace E4 := zfk E4 V5 hb; replace E6 := zfk E6 V6 hb; clear HO531; clear HO538; clear E8; clear HB; have HO531 := n0_; have HO538 := n1_; have E8 := n2_; have HB := n3_; clear n0_ n1_ n2_ n3_; (try clear hb); obtain ⟨E3V, E3W, E3X, E3Y, E3Z, E4a⟩ := zq3 E6; (try clear E4); (try clear E6); (try clear HO538); (try clear E8)) | (go_at_call 14; (refine (imageeditorlaw14_same.calls kj6 t527 t528 _ _ t529 0 0 _ _ ([] : List (S37)) t542 _ ?side1 ?side2 ?side3 ?side4 A46.out).mono ?_); (case side1 => repeat (first | exact (Kd.R_reads' HO531.out).2.2 | (with_reducible refine Kd.C_alloc ?_ _) | (with_reducible refine Kd.C_drewN ?_ _) | (with_reducible refine Kd.C_drew ?_))); (case side2 => exact (Kd.R_reads' HO531.out).2.1); (case side3 => exact Kd.C_nil _ _); (case side4 => exact Nat.le_refl _); rintro e w87 ⟨rfl, hb⟩; replace HO531 := zr HO531 hb; replace HB := zb HB hb; (try clear hb)))
     go_ret
     exact ⟨by first | rfl | (simp [errW_none, errW_some] <;> rfl) | (simp [*, errW_none, errW_some] <;> rfl), by exact zb0 HB⟩
   replace c44 := Bool.eq_false_iff.mpr c44
   subst c44
   rw [if_neg (show ¬ (false = true) by decide)] at H
   by_cases c88 : t532 = 0
   rotate_left
   ·rw [if_neg c88] at H
    have E0Q : (t532 == 0) = false := beq_eq_false_iff_ne.mpr c88
    have E0R : (t532 != 0) = true := bne_iff_ne.mpr c88
    as_aux_lemma =>
     exact absurd HT.out (by rw [← Option.some.inj H]; decide)

   rw [if_pos c88] at H
   have E0Q : (t532 == 0) = true := beq_iff_eq.mpr c88
   have E0R : (t532 != 0) = false := bne_eq_false_iff_eq.mpr c88
   clear c88
   by_cases c89 : t539 = 0
   rotate_left
   ·rw [if_neg c89] at H
    have E0S : (t539 == 0) = false := beq_eq_false_iff_ne.mpr c89
    have E0T : (t539 != 0) = true := bne_iff_ne.mpr c89
    as_aux_lemma =>
     exact absurd HT.out (by rw [← Option.some.inj H]; decide)
   rw [if_pos c89] at H
   have E0S : (t539 == 0) = true := beq_iff_eq.mpr c89
   have E0T : (t539 != 0) = false := bne_eq_false_iff_eq.mpr c89
   clear c89
   replace H := Option.bind_eq_some_iff.mp H
   obtain ⟨t543, A900, H⟩ := H
   try dsimp only at H
   have A90 := Aside0.mk A900
   clear A900
   as_aux_lemma =>
    obtain rfl := Option.some.inj H
    have E4b := Y3.out
    have E4c := Y2.out
    have E4d := Y5.out
    have E4e := Y4.out
    have E4f := Z0.out
    have E4g := Z1.out
    have E4h := G5.out
    have E4i := Z5.out
    obtain ⟨E4j, E4k, E4l, E4m, E4n, E4o, E4p, E4q⟩ := zq4 E0
    have E4r := Y7.out
    have E4s := Y6.out
    have E4t := Y9.out
    have E4u := Y8.out
    have E4v := G6.out
    have E4w := Z6.out
    obtain ⟨E4x, E4y, E4z, E4A, E4B, E4C, E4D, E4E⟩ := zq4 E7
    (try clear E7)
    go_wp2_with (first | ((with_reducible refine gate_callee (f := 15) rfl ?_); refine goesL_ (some 39) rfl rfl Try.func15 (by kernel_rfl) rfl #[.agg #[.int .i64 a3_0, .int .i64 a3_1, .int .i64 a3_2, .int .i64 a3_3], .agg #[.int .i64 a4_0, .int .i64 a4_1, .int .i64 a4_2, .int .i64 a4_3]] rfl (by (try simp only [List.map_toArray, List.map_cons, List.map_nil]); first | done | rfl | (simp only [List.length_drop, List.length_take]; rfl)) ?_; (with_reducible refine (rect_Meet.calls a3_0 a3_1 a3_2 a3_3 a4_0 a4_1 a4_2 a4_3 t522 t523 t524 t525 _ A40.out).mono ?_); rintro e w100 ⟨rfl, hb⟩; refine ⟨_, rfl, ?_⟩; replace E5 := zr E5 hb; replace E2 := zk E2 hb; replace E3 := zk E3 hb; replace E0 := zk E0 hb; replace E1 := zk E1 hb; replace HB := zb HB hb; (try clear hb)) | ((with_reducible refine gate_dst (N := 13) rfl ?_); refine box_event ?hg (N := 13) ?hd (cs := #[.int .i64 0, .int .i64 0, .int .i64 0, .int .i64 0]) (t := 27) ?hr ?_; (case hd => rfl); (case hg => rfl); (case hr => first | (go_simp; done) | (go_simp; rfl)); intro Z7 hg w101 hbox hb; have E0N := zg HB hg; have G2 := zg HB hg; have G7 := zn E2 hg; have Z8 := zn' E2 hg; have G8 := zn E3 hg; have Z9 := zn' E3 hg; have G9 := zn E0 hg; have J0 := zn' E0 hg; have V0 := zn E1 hg; have J1 := zn' E1 hg; have n0_ := Aside0.mk (hbox); replace E5 := zr E5 hb; replace E2 := zk E2 hb; replace E3 := zk E3 hb; replace E0 := zk E0 hb; replace E1 := zk E1 hb; replace HB := zb HB hb; have E4 := n0_; clear n0_; clear hb hbox hg; have E4F := Z8.out; have E4G := G7.out; have E4H := Z9.out; have E4I := G8.out; have E4J := J0.out; have E4K := G9.out; have E4L := J1.out; have E4M := V0.out; obtain ⟨E4N, E4O, E4P, E4Q, E4R, E4S, E4T, E4U⟩ := zq4 E4; have E4V := Y0.out; have E4W := Y1.out; have E4X := G3.out; have E4Y := Z3.out; obtain ⟨E4Z, E5a, E5b, E5c, E5d, E5e⟩ := zq3 E2; have E5f := G4.out; have E5g := Z4.out; obtain ⟨E5h, E5i, E5j, E5k, E5l, E5m, E5n, E5o, E5p, E5q, E5r, E5s⟩ := zq6 E3) | ((with_reducible refine gate_callee (f := 9) rfl ?_); refine goesL_ (some 45) rfl rfl Try.func9 (by kernel_rfl) rfl #[.agg #[.int .i64 a0_0, .int .i64 a0_1, .slice A0_2 l0_2.length c0_2], .agg #[.int .i64 a1_0, .int .i64 a1_1, .int .i64 a1_2, .int .i64 a1_3, .int .i64 a1_4, .int .i64 a1_5], .int .i64 a2, .agg #[.int .i64 t522, .int .i64 t523, .int .i64 t524, .int .i64 t525]] rfl (by (try simp only [List.map_toArray, List.map_cons, List.map_nil]); first | done | rfl | (simp only [List.length_drop, List.length_take]; rfl)) ?_; (with_reducible refine (sample_Draw.calls kj6 a0_0 a0_1 _ _ l0_2 a1_0 a1_1 a1_2 a1_3 a1_4 a1_5 a2 t522 t523 t524 t525 t527 t528 t529 t532 _ ?side1 ?side2 A41.out).mono ?_); (case side1 => exact Kd.C_below V8.out (by exact zbo HB G2)); (case side2 => exact V9.out); rintro e w112 ⟨v530, rfl, ho0, hb⟩; refine ⟨_, rfl, ?_⟩; have n0_ := Aside0.mk (Kd.R_below (by exact zro E5 E4 (by decide)) hb); have n1_ := Aside0.mk (Kd.R_lower ho0 (below_size (by exact zbo HB G2))); have n2_ := Aside0.mk (blk_below (g := Z7) (o := .cells #[.int .i64 t522, .int .i64 t523, .int .i64 t524, .int .i64 t525] 27 (0, 0)) (by exact zp E4 rfl) hb); have n3_ := Aside0.mk (below_step (by exact zbo HB G2) hb); replace E2 := zfk E2 G7 hb; replace E3 := zfk E3 G8 hb; replace E0 := zfk E0 G9 hb; replace E1 := zfk E1 V0 hb; clear E5; clear E4; clear HB; have E5 := n0_; have HO531 := n1_; have E4 := n2_; have HB := n3_; clear n0_ n1_ n2_ n3_; (try clear hb); (try clear ho0); (try clear E2); (try clear E3)) | ((with_reducible refine gate_dst (N := 14) rfl ?_); refine box_event ?hg (N := 14) ?hd (cs := #[.int .i64 0, .int .i64 0, .slice none 0 0]) (t := 24) ?hr ?_; (case hd => rfl); (case hg => rfl); (case hr => first | (go_simp; done) | (go_simp; rfl)); intro J2 hg w113 hbox hb; have E0O := zg HB hg; have V1 := zg HB hg; have V2 := zn E0 hg; have J3 := zn' E0 hg; have V3 := zn E1 hg; have J4 := zn' E1 hg; have V4 := zn E4 hg; have J5 := zn' E4 hg; have n0_ := Aside0.mk (hbox); replace E5 := zr E5 hb; replace HO531 := zr HO531 hb; replace E0 := zk E0 hb; replace E1 := zk E1 hb; replace E4 := zk E4 hb; replace HB := zb HB hb; have E6 := n0_; clear n0_; clear hb hbox hg; have E5t := J3.out; have E5u := V2.out; have E5v := J4.out; have E5w := V3.out; have E5x := J5.out; have E5y := V4.out; obtain ⟨E5z, E5A, E5B, E5C, E5D, E5E⟩ := zq3 E6; obtain ⟨Ao118, co118, eo118⟩ := Kd.R_slice HO531.out; subst eo118; obtain ⟨E5F, E5G, E5H, E5I, E5J, E5K⟩ := zq3 E1; obtain ⟨E5L, E5M, E5N, E5O, E5P, E5Q, E5R, E5S⟩ := zq4 E4; obtain ⟨E5T, E5U, E5V, E5W, E5X, E5Y, E5Z, E6a⟩ := zq4 E0) | ((with_reducible refine gate_callee (f := 16) rfl ?_); refine goesL_ (some 65) rfl rfl Try.func16 (by kernel_rfl) rfl #[.agg #[.int .i64 t512, .int .i64 t513, .slice Ao28 t514.length co28], .agg #[.int .i64 (wrap64 (t522 - a3_0)), .int .i64 (wrap64 (t523 - a3_1)), .int .i64 t524, .int .i64 t525]] rfl (by (try simp only [List.map_toArray, List.map_cons, List.map_nil]); first | done | rfl | (simp only [List.length_drop, List.length_take]; rfl)) ?_; (with_reducible refine (raster_Crop.calls kj6 t512 t513 _ _ t514 (wrap64 (t522 - a3_0)) (wrap64 (t523 - a3_1)) t524 t525 t534 t535 t536 t539 _ ?side1 ?side2 A42.out).mono ?_); (case side1 => refine (Kd.R_reads' (e := 37) (base := w.heap.size) (ok := fun k_ => True) (n := t514.length) (c := co28) ?_).2.2; exact (by exact zro E5 E6 (by decide))); (case side2 => exact (Kd.R_reads' E5.out).2.1); rintro e w122 ⟨v537, rfl, ho0, hb⟩; refine ⟨_, rfl, ?_⟩; have n0_ := Aside0.mk (Kd.R_below (by exact zro E5 E6 (by decide)) hb); have n1_ := Aside0.mk (Kd.R_below (by exact zro HO531 E6 (by decide)) hb); have n2_ := Aside0.mk (Kd.R_lower ho0 (below_size (by exact zbo HB V1))); have n3_ := Aside0.mk (blk_below (g := J2) (o := .cells #[.int .i64 t527, .int .i64 t528, .slice Ao118 t529.length co118] 24 (0, 0)) (by exact zp E6 rfl) hb); have n4_ := Aside0.mk (below_step (by exact zbo HB V1) hb); replace E0 := zfk E0 V2 hb; replace E1 := zfk E1 V3 hb; replace E4 := zfk E4 V4 hb; clear E5; clear HO531; clear E6; clear HB; have E5 := n0_; have HO531 := n1_; have HO538 := n2_; have E6 := n3_; have HB := n4_; clear n0_ n1_ n2_ n3_ n4_; (try clear hb); (try clear ho0); (try clear E5); (try clear E0); (try clear E1)) | ((with_reducible refine gate_dst (N := 15) rfl ?_); refine box_event ?hg (N := 15) ?hd (cs := #[.int .i64 0, .int .i64 0, .slice none 0 0]) (t := 24) ?hr ?_; (case hd => rfl); (case hg => rfl); (case hr => first | (go_simp; done) | (go_simp; rfl)); intro J6 hg w123 hbox hb; have E0P := zg HB hg; have J7 := zg HB hg; have V5 := zn E4 hg; have J8 := zn' E4 hg; have V6 := zn E6 hg; have J9 := zn' E6 hg; have n0_ := Aside0.mk (hbox); replace HO531 := zr HO531 hb; replace HO538 := zr HO538 hb; replace E4 := zk E4 hb; replace E6 := zk E6 hb; replace HB := zb HB hb; have E8 := n0_; clear n0_; clear hb hbox hg; have E6b := J8.out; have E6c := V5.out; have E6d := J9.out; have E6e := V6.out; obtain ⟨E6f, E6g, E6h, E6i, E6j, E6k⟩ := zq3 E8; obtain ⟨Ao127, co127, eo127⟩ := Kd.R_slice HO538.out; subst eo127; obtain ⟨E6l, E6m, E6n, E6o, E6p, E6q, E6r, E6s⟩ := zq4 E4) | ((with_reducible refine gate_callee (f := 12) rfl ?_); refine goesL_ (some 69) rfl rfl Try.func12 (by kernel_rfl) rfl #[.agg #[.int .i64 t522, .int .i64 t523, .int .i64 t524, .int .i64 t525]] rfl (by (try simp only [List.map_toArray, List.map_cons, List.map_nil]); first | done | rfl | (simp only [List.length_drop, List.length_take]; rfl)) ?_; (with_reducible refine (rect_Empty.calls t522 t523 t524 t525 false _ A43.out).mono ?_); rintro e w129 ⟨rfl, hb⟩; refine ⟨_, rfl, ?_⟩; have n0_ := Aside0.mk (Kd.R_below (by exact zro HO531 E8 (by decide)) hb); have n1_ := Aside0.mk (Kd.R_below (by exact zro HO538 E8 (by decide)) hb); have n2_ := Aside0.mk (blk_below (g := J6) (o := .cells #[.int .i64 t534, .int .i64 t535, .slice Ao127 t536.length co127] 24 (0, 0)) (by exact zp E8 rfl) hb); have n3_ := Aside0.mk (below_step (by exact zbo HB J7) hb); replace E4 := zfk E4 V5 hb; replace E6 := zfk E6 V6 hb; clear HO531; clear HO538; clear E8; clear HB; have HO531 := n0_; have HO538 := n1_; have E8 := n2_; have HB := n3_; clear n0_ n1_ n2_ n3_; (try clear hb); obtain ⟨E6t, E6u, E6v, E6w, E6x, E6y⟩ := zq3 E6; obtain ⟨E6z, E6A, E6B, E6C, E6D, E6E⟩ := zq3 E8; (try clear E4); (try clear E6); (try clear E8)) | (go_at_call 14; (with_reducible refine (imageeditorlaw14_same.calls kj6 t527 t528 _ _ t529 t534 t535 _ _ t536 t543 _ ?side1 ?side2 ?side3 ?side4 A90.out).mono ?_); (case side1 => repeat (first | exact (Kd.R_reads' HO531.out).2.2 | (with_reducible refine Kd.C_alloc ?_ _) | (with_reducible refine Kd.C_drewN ?_ _) | (with_reducible refine Kd.C_drew ?_))); (case side2 => exact (Kd.R_reads' HO531.out).2.1); (case side3 => repeat (first | exact (Kd.R_reads' HO538.out).2.2 | (with_reducible refine Kd.C_alloc ?_ _) | (with_reducible refine Kd.C_drewN ?_ _) | (with_reducible refine Kd.C_drew ?_))); (case side4 => exact (Kd.R_reads' HO538.out).2.1); rintro e w132 ⟨rfl, hb⟩; replace HO531 := zr HO531 hb; replace HO538 := zr HO538 hb; replace HB := zb HB hb; (try clear hb)))
    go_ret
    exact ⟨by first | rfl | (simp [errW_none, errW_some] <;> rfl) | (simp [*, errW_none, errW_some] <;> rfl), by exact zb0 HB⟩
end Go.Proofs.Ytapdifpmijgkcaa.G
