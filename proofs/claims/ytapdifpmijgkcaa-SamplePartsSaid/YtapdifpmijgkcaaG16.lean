/- Contracts of functions of the program, each as it is called: what it computes (.f), that it computes no less with more rounds (.mono), and that a call returns just that (.calls). No conditions but those that each contract names. Written by a program of this session (wip/gx.py over the kit's print). -/
import Derived.Test.YtapdifpmijgkcaaG0
import Derived.Test.YtapdifpmijgkcaaG1
import Derived.Test.YtapdifpmijgkcaaG11
import Derived.Test.YtapdifpmijgkcaaG13
namespace Go.Proofs.Ytapdifpmijgkcaa.G
open Go.RowKit Go.Proofs.YtapdifpmijgkcaaW.PrintWords Go.Proofs.YtapdifpmijgkcaaW.PrintLast Go.Proofs.YtapdifpmijgkcaaW.PrintMore
attribute [local go_sem] max2_int min2_int max_two min_two max_three min_three max_four min_four   -- for this text's walks alone
set_option linter.unusedVariables false
set_option linter.unusedSimpArgs false


/-! ### rect_Meet: function 15 -/
def rect_Meet.f (a0_0 : Int) (a0_1 : Int) (a0_2 : Int) (a0_3 : Int) (a1_0 : Int) (a1_1 : Int) (a1_2 : Int) (a1_3 : Int) : Option (Int × Int × Int × Int) := (rect_known.f a0_0 a0_1 a0_2 a0_3).bind fun E6 => ((rect_known.f a1_0 a1_1 a1_2 a1_3).bind fun E7 => ((rect_meet.f E6.1 E6.2.1 E6.2.2.1 E6.2.2.2 E7.1 E7.2.1 E7.2.2.1 E7.2.2.2).bind fun E8 => (some (E8.1, E8.2.1, E8.2.2.1, E8.2.2.2))))
set_option maxHeartbeats 8000000 in
set_option maxRecDepth 100000 in
theorem rect_Meet.calls (a0_0 : Int) (a0_1 : Int) (a0_2 : Int) (a0_3 : Int) (a1_0 : Int) (a1_1 : Int) (a1_2 : Int) (a1_3 : Int) (r1 : Int) (r2 : Int) (r3 : Int) (r4 : Int) (w : World) (h : rect_Meet.f a0_0 a0_1 a0_2 a0_3 a1_0 a1_1 a1_2 a1_3 = some (r1, r2, r3, r4)) :
  Calls Try.prog 15 #[.agg #[.int .i64 a0_0, .int .i64 a0_1, .int .i64 a0_2, .int .i64 a0_3], .agg #[.int .i64 a1_0, .int .i64 a1_1, .int .i64 a1_2, .int .i64 a1_3]] w fun e w' => e = .returned (.agg #[.int .i64 r1, .int .i64 r2, .int .i64 r3, .int .i64 r4]) ∧ Below w.heap.size w w' := by
 have hu27 := Try.underlying27
 have HB := Aside0.mk (Below.refl w.heap.size w)
 have H : ((rect_known.f a0_0 a0_1 a0_2 a0_3).bind fun E6 => ((rect_known.f a1_0 a1_1 a1_2 a1_3).bind fun E7 => ((rect_meet.f E6.1 E6.2.1 E6.2.2.1 E6.2.2.2 E7.1 E7.2.1 E7.2.2.1 E7.2.2.2).bind fun E8 => (some (E8.1, E8.2.1, E8.2.2.1, E8.2.2.2))))) = some (r1, r2, r3, r4) := h
 clear h
 replace H := Option.bind_eq_some_iff.mp H
 obtain ⟨⟨t464, t465, t466, t467⟩, A30, H⟩ := H
 try dsimp only at H
 have A3 := Aside0.mk A30
 clear A30
 replace H := Option.bind_eq_some_iff.mp H
 obtain ⟨⟨t468, t469, t470, t471⟩, A40, H⟩ := H
 try dsimp only at H
 have A4 := Aside0.mk A40
 clear A40
 replace H := Option.bind_eq_some_iff.mp H
 obtain ⟨⟨t472, t473, t474, t475⟩, A50, H⟩ := H
 try dsimp only at H
 have A5 := Aside0.mk A50
 clear A50
 simp only [Option.some.injEq, Prod.mk.injEq] at H
 obtain ⟨rfl, rfl, rfl, rfl⟩ := H
 go_enter Try.func15, Try.ntmps15
 try go_wp2_with (first | ((with_reducible refine gate_dst (N := 2) rfl ?_); refine box_event ?hg (N := 2) ?hd (cs := #[.int .i64 a0_0, .int .i64 a0_1, .int .i64 a0_2, .int .i64 a0_3]) (t := 27) ?hr ?_; (case hd => rfl); (case hg => rfl); (case hr => first | (go_simp; done) | (go_simp; rfl)); intro E9 hg w6 hbox hb; have G4 := zg HB hg; have G5 := zg HB hg; have n0_ := Aside0.mk (hbox); replace HB := zb HB hb; have E1 := n0_; clear n0_; clear hb hbox hg) | ((with_reducible refine gate_dst (N := 3) rfl ?_); refine box_event ?hg (N := 3) ?hd (cs := #[.int .i64 a1_0, .int .i64 a1_1, .int .i64 a1_2, .int .i64 a1_3]) (t := 27) ?hr ?_; (case hd => rfl); (case hg => rfl); (case hr => first | (go_simp; done) | (go_simp; rfl)); intro G0 hg w7 hbox hb; have G6 := zg HB hg; have G7 := zg HB hg; have G8 := zn E1 hg; have G9 := zn' E1 hg; have n0_ := Aside0.mk (hbox); replace E1 := zk E1 hb; replace HB := zb HB hb; have E2 := n0_; clear n0_; clear hb hbox hg) | ((with_reducible refine gate_dst (N := 4) rfl ?_); refine box_event ?hg (N := 4) ?hd (cs := #[.int .i64 0, .int .i64 0, .int .i64 0, .int .i64 0]) (t := 27) ?hr ?_; (case hd => rfl); (case hg => rfl); (case hr => first | (go_simp; done) | (go_simp; rfl)); intro E0 hg w8 hbox hb; have V0 := zg HB hg; have G3 := zg HB hg; have E3 := zn E1 hg; have G1 := zn' E1 hg; have E4 := zn E2 hg; have G2 := zn' E2 hg; have n0_ := Aside0.mk (hbox); replace E1 := zk E1 hb; replace E2 := zk E2 hb; replace HB := zb HB hb; have E5 := n0_; clear n0_; clear hb hbox hg))
 replace E1 := zkd E1
 replace E2 := zkd E2
 replace E5 := zkd E5
 replace HB := zbd HB
 refine start_ (n := 6) (S := fun w' => w'.cell? ⟨E9, 0, none⟩ = some (.int .i64 a0_0) ∧ w'.cell? ⟨E9, 1, none⟩ = some (.int .i64 a0_1) ∧ w'.cell? ⟨E9, 2, none⟩ = some (.int .i64 a0_2) ∧ w'.cell? ⟨E9, 3, none⟩ = some (.int .i64 a0_3) ∧ w'.cell? ⟨G0, 0, none⟩ = some (.int .i64 a1_0) ∧ w'.cell? ⟨G0, 1, none⟩ = some (.int .i64 a1_1) ∧ w'.cell? ⟨G0, 2, none⟩ = some (.int .i64 a1_2) ∧ w'.cell? ⟨G0, 3, none⟩ = some (.int .i64 a1_3)) (ds := []) (bs 6 0) (by kernel_rfl) rfl rfl ⟨(blk_cell E1.out 0).trans rfl, (blk_cell E1.out 1).trans rfl, (blk_cell E1.out 2).trans rfl, (blk_cell E1.out 3).trans rfl, (blk_cell E2.out 0).trans rfl, (blk_cell E2.out 1).trans rfl, (blk_cell E2.out 2).trans rfl, (blk_cell E2.out 3).trans rfl⟩ (fun hHeld => ?_)
 generalize w8.drew = w9 at E1 E2 E5 HB hHeld ⊢
 refine take_ (i := 0) (N := some 5) (v := ?_) (a' := ?_) (bs 6 1) rfl rfl (by kernel_rfl) (fun _ _ _ h => h) (Or.inl ⟨by rfl, ?_⟩) hHeld ?_ ?_
 rotate_left
 ·rintro w' ⟨s0, s1, s2, s3, s4, s5, s6, s7⟩
  go_simp
  with_reducible rfl
 rotate_left
 ·simp only [Act.put, sA, sB, sC, i64_w, i32_w]
  rfl
 refine take_ (i := 2) (N := some 7) (v := ?_) (a' := ?_) (bs 6 5) rfl rfl (by kernel_rfl) (fun _ _ _ h => h) (Or.inl ⟨by rfl, ?_⟩) hHeld ?_ ?_
 rotate_left
 ·rintro w' ⟨s0, s1, s2, s3, s4, s5, s6, s7⟩
  go_simp
  with_reducible rfl
 rotate_left
 ·simp only [Act.put, sA, sB, sC, i64_w, i32_w]
  rfl
 refine one_ (i := 1) (N := some 6) (bs 6 7) rfl rfl (by kernel_rfl) (by decide) (fun K hK => ?_)
 refine goes_ Try.func31 (by kernel_rfl) rfl #[.agg #[.int .i64 a0_0, .int .i64 a0_1, .int .i64 a0_2, .int .i64 a0_3]] (by rfl) rfl rfl (by (try simp only [List.map_toArray, List.map_cons, List.map_nil]); first | done | rfl | (simp only [List.length_drop, List.length_take]; rfl)) ?_
 with_reducible refine (rect_known.calls a0_0 a0_1 a0_2 a0_3 t464 t465 t466 t467 _ A3.out).mono ?_
 rintro e w10 ⟨rfl, hb⟩
 refine ⟨_, rfl, ?_⟩
 replace E1 := zk E1 hb
 replace E2 := zk E2 hb
 replace E5 := zk E5 hb
 replace HB := zb HB hb
 (try clear hb)
 (try clear hb2)
 (try clear hk)
 (try clear hi)
 refine hK.out _ _ ⟨(blk_cell E1.out 0).trans rfl, (blk_cell E1.out 1).trans rfl, (blk_cell E1.out 2).trans rfl, (blk_cell E1.out 3).trans rfl, (blk_cell E2.out 0).trans rfl, (blk_cell E2.out 1).trans rfl, (blk_cell E2.out 2).trans rfl, (blk_cell E2.out 3).trans rfl⟩ (fun hHeld => ?_)
 clear hK K
 refine norm_ (a' := ?_) ?_ ?_
 rotate_left
 ·show Act.put _ (some 6) _ = _
  simp only [Act.put, sA, sB, sC, i64_w, i32_w]
  rfl
 refine one_ (i := 3) (N := some 8) (bs 6 15) rfl rfl (by kernel_rfl) (by decide) (fun K hK => ?_)
 refine goes_ Try.func31 (by kernel_rfl) rfl #[.agg #[.int .i64 a1_0, .int .i64 a1_1, .int .i64 a1_2, .int .i64 a1_3]] (by rfl) rfl rfl (by (try simp only [List.map_toArray, List.map_cons, List.map_nil]); first | done | rfl | (simp only [List.length_drop, List.length_take]; rfl)) ?_
 with_reducible refine (rect_known.calls a1_0 a1_1 a1_2 a1_3 t468 t469 t470 t471 _ A4.out).mono ?_
 rintro e w11 ⟨rfl, hb⟩
 refine ⟨_, rfl, ?_⟩
 replace E1 := zk E1 hb
 replace E2 := zk E2 hb
 replace E5 := zk E5 hb
 replace HB := zb HB hb
 (try clear hb)
 (try clear hb2)
 (try clear hk)
 (try clear hi)
 refine hK.out _ _ ⟨(blk_cell E1.out 0).trans rfl, (blk_cell E1.out 1).trans rfl, (blk_cell E1.out 2).trans rfl, (blk_cell E1.out 3).trans rfl, (blk_cell E2.out 0).trans rfl, (blk_cell E2.out 1).trans rfl, (blk_cell E2.out 2).trans rfl, (blk_cell E2.out 3).trans rfl⟩ (fun hHeld => ?_)
 clear hK K
 refine norm_ (a' := ?_) ?_ ?_
 rotate_left
 ·show Act.put _ (some 8) _ = _
  simp only [Act.put, sA, sB, sC, i64_w, i32_w]
  rfl
 refine one_ (i := 4) (N := some 9) (bs 6 31) rfl rfl (by kernel_rfl) (by decide) (fun K hK => ?_)
 refine goes_ Try.func33 (by kernel_rfl) rfl #[.agg #[.int .i64 t464, .int .i64 t465, .int .i64 t466, .int .i64 t467], .agg #[.int .i64 t468, .int .i64 t469, .int .i64 t470, .int .i64 t471]] (by rfl) rfl rfl (by (try simp only [List.map_toArray, List.map_cons, List.map_nil]); first | done | rfl | (simp only [List.length_drop, List.length_take]; rfl)) ?_
 with_reducible refine (rect_meet.calls t464 t465 t466 t467 t468 t469 t470 t471 t472 t473 t474 t475 _ A5.out).mono ?_
 rintro e w12 ⟨rfl, hb⟩
 refine ⟨_, rfl, ?_⟩
 replace E1 := zk E1 hb
 replace E2 := zk E2 hb
 replace E5 := zk E5 hb
 replace HB := zb HB hb
 (try clear hb)
 (try clear hb2)
 (try clear hk)
 (try clear hi)
 refine hK.out _ _ ⟨(blk_cell E1.out 0).trans rfl, (blk_cell E1.out 1).trans rfl, (blk_cell E1.out 2).trans rfl, (blk_cell E1.out 3).trans rfl, (blk_cell E2.out 0).trans rfl, (blk_cell E2.out 1).trans rfl, (blk_cell E2.out 2).trans rfl, (blk_cell E2.out 3).trans rfl⟩ (fun hHeld => ?_)
 clear hK K
 refine norm_ (a' := ?_) ?_ ?_
 rotate_left
 ·show Act.put _ (some 9) _ = _
  simp only [Act.put, sA, sB, sC, i64_w, i32_w]
  rfl
 refine one_ (i := 5) (N := none) (bs 6 63) rfl rfl (by kernel_rfl) (by decide) (fun K hK => ?_)
 have hs13 : w12.cell? ⟨E0, 0, none⟩ = some (.int .i64 0) := (blk_cell E5.out 0).trans rfl
 have hfs13 := blk_frozen E5.out 0
 have V1 := E3.out
 have V2 := E4.out
 have V3 := G1.out
 have V4 := G2.out
 have hs14 : w12.cell? ⟨E0, 1, none⟩ = some (.int .i64 0) := (blk_cell E5.out 1).trans rfl
 have hfs14 := blk_frozen E5.out 1
 have V5 := E3.out
 have V6 := E4.out
 have V7 := G1.out
 have V8 := G2.out
 have hs15 : w12.cell? ⟨E0, 2, none⟩ = some (.int .i64 0) := (blk_cell E5.out 2).trans rfl
 have hfs15 := blk_frozen E5.out 2
 have V9 := E3.out
 have Y0 := E4.out
 have Y1 := G1.out
 have Y2 := G2.out
 have hs16 : w12.cell? ⟨E0, 3, none⟩ = some (.int .i64 0) := (blk_cell E5.out 3).trans rfl
 have hfs16 := blk_frozen E5.out 3
 have Y3 := E3.out
 have Y4 := E4.out
 have Y5 := G1.out
 have Y6 := G2.out
 refine skip_ (w1 := ?_) (by rfl) rfl ?_ ?_
 rotate_left
 ·go_simp
  rfl
 refine hK.out _ _ ⟨((cell_far (p := ⟨E0, _, none⟩) E3.out _).trans (((cell_far (p := ⟨E0, _, none⟩) E3.out _).trans (((cell_far (p := ⟨E0, _, none⟩) E3.out _).trans (((cell_far (p := ⟨E0, _, none⟩) E3.out _).trans (hHeld.1)))))))), ((cell_far (p := ⟨E0, _, none⟩) E3.out _).trans (((cell_far (p := ⟨E0, _, none⟩) E3.out _).trans (((cell_far (p := ⟨E0, _, none⟩) E3.out _).trans (((cell_far (p := ⟨E0, _, none⟩) E3.out _).trans (hHeld.2.1)))))))), ((cell_far (p := ⟨E0, _, none⟩) E3.out _).trans (((cell_far (p := ⟨E0, _, none⟩) E3.out _).trans (((cell_far (p := ⟨E0, _, none⟩) E3.out _).trans (((cell_far (p := ⟨E0, _, none⟩) E3.out _).trans (hHeld.2.2.1)))))))), ((cell_far (p := ⟨E0, _, none⟩) E3.out _).trans (((cell_far (p := ⟨E0, _, none⟩) E3.out _).trans (((cell_far (p := ⟨E0, _, none⟩) E3.out _).trans (((cell_far (p := ⟨E0, _, none⟩) E3.out _).trans (hHeld.2.2.2.1)))))))), ((cell_far (p := ⟨E0, _, none⟩) E4.out _).trans (((cell_far (p := ⟨E0, _, none⟩) E4.out _).trans (((cell_far (p := ⟨E0, _, none⟩) E4.out _).trans (((cell_far (p := ⟨E0, _, none⟩) E4.out _).trans (hHeld.2.2.2.2.1)))))))), ((cell_far (p := ⟨E0, _, none⟩) E4.out _).trans (((cell_far (p := ⟨E0, _, none⟩) E4.out _).trans (((cell_far (p := ⟨E0, _, none⟩) E4.out _).trans (((cell_far (p := ⟨E0, _, none⟩) E4.out _).trans (hHeld.2.2.2.2.2.1)))))))), ((cell_far (p := ⟨E0, _, none⟩) E4.out _).trans (((cell_far (p := ⟨E0, _, none⟩) E4.out _).trans (((cell_far (p := ⟨E0, _, none⟩) E4.out _).trans (((cell_far (p := ⟨E0, _, none⟩) E4.out _).trans (hHeld.2.2.2.2.2.2.1)))))))), ((cell_far (p := ⟨E0, _, none⟩) E4.out _).trans (((cell_far (p := ⟨E0, _, none⟩) E4.out _).trans (((cell_far (p := ⟨E0, _, none⟩) E4.out _).trans (((cell_far (p := ⟨E0, _, none⟩) E4.out _).trans (hHeld.2.2.2.2.2.2.2))))))))⟩ (fun hHeld => ?_)
 clear hK K
 refine done_ (by kernel_rfl) ?_
 try go_wp2
 refine bodyPost_ret (results_cell_row rfl _ _ E0 27 #[.int .i64 t472, .int .i64 t473, .int .i64 t474, .int .i64 t475] (0, 0) _ rfl (by exact zp E5 rfl) Try.underlying27 rfl (by kernel_rfl)) rfl ?_
 exact ⟨by first | rfl | (simp [errW_none, errW_some] <;> rfl) | (simp [*, errW_none, errW_some] <;> rfl), by exact zbo HB G3⟩

/-! ### raster_Crop_1: function 35 -/
def raster_Crop_1.f (a0 : Int) (a1 : Int) (a2_0 : Int) (a2_1 : Int) (l2_2 : List (S37)) (a3_0 : Int) (a3_1 : Int) (a3_2 : Int) (a3_3 : Int) : Option (Int × Int × Int × Int) := (raster_get.f a2_0 a2_1 l2_2 (wrap64 (a3_0 + a0)) (wrap64 (a3_1 + a1))).bind fun E0 => (some (E0.1, E0.2.1, E0.2.2.1, E0.2.2.2))
set_option maxHeartbeats 8000000 in
set_option maxRecDepth 100000 in
theorem raster_Crop_1.calls (a0 : Int) (a1 : Int) (E4 : Nat) (a2_0 : Int) (a2_1 : Int) (A2_2 : Option Addr) (c2_2 : Nat) (l2_2 : List (S37)) (E5 : Nat) (a3_0 : Int) (a3_1 : Int) (a3_2 : Int) (a3_3 : Int) (r1 : Int) (r2 : Int) (r3 : Int) (r4 : Int) (w : World) (hp2_0 : w.heap[E4]? = some (.cells #[.int .i64 a2_0, .int .i64 a2_1, .slice A2_2 l2_2.length c2_2] 24 (0, 0))) (hr2_2 : Kd.C k37 w A2_2 l2_2.length l2_2) (hc2_2 : l2_2.length ≤ c2_2) (hp3_0 : w.heap[E5]? = some (.cells #[.int .i64 a3_0, .int .i64 a3_1, .int .i64 a3_2, .int .i64 a3_3] 27 (0, 0))) (h : raster_Crop_1.f a0 a1 a2_0 a2_1 l2_2 a3_0 a3_1 a3_2 a3_3 = some (r1, r2, r3, r4)) :
  Calls Try.prog 35 #[.int .i64 a0, .int .i64 a1, .pointer (some ⟨E4, 0, none⟩), .pointer (some ⟨E5, 0, none⟩)] w fun e w' => e = .returned (.agg #[.int .i64 r1, .int .i64 r2, .int .i64 r3, .int .i64 r4]) ∧ Below w.heap.size w w' := by
 have hu37 := Try.underlying37
 have hu24 := Try.underlying24
 have E6 := Aside0.mk hr2_2
 have E7 := Aside0.mk hc2_2
 clear hr2_2 hc2_2
 have E1 := Aside0.mk hp2_0
 have GL476 := Aside0.mk (show E4 < w.heap.size from blk_lt hp2_0)
 clear hp2_0
 have E2 := Aside0.mk hp3_0
 have GL477 := Aside0.mk (show E5 < w.heap.size from blk_lt hp3_0)
 clear hp3_0
 have HB := Aside0.mk (Below.refl w.heap.size w)
 have H : ((raster_get.f a2_0 a2_1 l2_2 (wrap64 (a3_0 + a0)) (wrap64 (a3_1 + a1))).bind fun E0 => (some (E0.1, E0.2.1, E0.2.2.1, E0.2.2.2))) = some (r1, r2, r3, r4) := h
 clear h
 replace H := Option.bind_eq_some_iff.mp H
 obtain ⟨⟨t479, t480, t481, t482⟩, A50, H⟩ := H
 try dsimp only at H
 have A5 := Aside0.mk A50
 clear A50
 simp only [Option.some.injEq, Prod.mk.injEq] at H
 obtain ⟨rfl, rfl, rfl, rfl⟩ := H
 go_enter Try.func35, Try.ntmps35
 go_wp2_with (first | ((with_reducible refine gate_dst (N := 6) rfl ?_); refine box_event ?hg (N := 6) ?hd (cs := #[.int .i64 0, .int .i64 0, .int .i64 0, .int .i64 0]) (t := 37) ?hr ?_; (case hd => rfl); (case hg => rfl); (case hr => first | (go_simp; done) | (go_simp; rfl)); intro E8 hg w6 hbox hb; have G4 := zg HB hg; have E9 := zg HB hg; have G0 := zn E1 hg; have G1 := zn' E1 hg; have G2 := zn E2 hg; have G3 := zn' E2 hg; have n0_ := Aside0.mk (hbox); replace E1 := zk E1 hb; replace E2 := zk E2 hb; replace HB := zb HB hb; have E3 := n0_; clear n0_; clear hb hbox hg; have G5 := G0.out; have G6 := G1.out; obtain ⟨G7, G8, G9, V0, V1, V2⟩ := zq3 E1; have V3 := G2.out; have V4 := G3.out; obtain ⟨V5, V6, V7, V8, V9, Y0, Y1, Y2⟩ := zq4 E2) | ((with_reducible refine gate_callee (f := 32) rfl ?_); refine goesL_ (some 16) rfl rfl Try.func32 (by kernel_rfl) rfl #[.agg #[.int .i64 a2_0, .int .i64 a2_1, .slice A2_2 l2_2.length c2_2], .int .i64 (wrap64 (a3_0 + a0)), .int .i64 (wrap64 (a3_1 + a1))] rfl (by (try simp only [List.map_toArray, List.map_cons, List.map_nil]); first | done | rfl | (simp only [List.length_drop, List.length_take]; rfl)) ?_; (with_reducible refine (raster_get.calls a2_0 a2_1 _ _ l2_2 (wrap64 (a3_0 + a0)) (wrap64 (a3_1 + a1)) t479 t480 t481 t482 _ ?side1 ?side2 A5.out).mono ?_); (case side1 => repeat (first | exact (Kd.C_below E6.out HB.out) | (with_reducible refine Kd.C_alloc ?_ _) | (with_reducible refine Kd.C_drewN ?_ _) | (with_reducible refine Kd.C_drew ?_))); (case side2 => exact E7.out); rintro e w11 ⟨rfl, hb⟩; refine ⟨_, rfl, ?_⟩; replace E1 := zk E1 hb; replace E2 := zk E2 hb; replace E3 := zk E3 hb; replace HB := zb HB hb; (try clear hb); obtain ⟨Y3, Y4, Y5, Y6, Y7, Y8, Y9, Z0⟩ := zq4 E3))
 refine bodyPost_ret (results_cell_row rfl _ _ E8 37 #[.int .i64 t479, .int .i64 t480, .int .i64 t481, .int .i64 t482] (0, 0) _ rfl (by exact zp E3 rfl) Try.underlying37 rfl (by kernel_rfl)) rfl ?_
 exact ⟨by first | rfl | (simp [errW_none, errW_some] <;> rfl) | (simp [*, errW_none, errW_some] <;> rfl), by exact zbo HB E9⟩

/-! ### raster_fill__raster_Crop_1: function 34 -/
mutual
def raster_fill__raster_Crop_1.l0 : Nat → Int → Int → Int → Int → Int → List (S37) → Int → Int → Int → Int → Int → Int → List (S37) → Option (Int × Int × (List (S37)))
 | 0, _, _, _, _, _, _, _, _, _, _, _, _, _ => none
 | k + 1, x0, x17, x18, G4, G5, G6, G7, G8, G9, V0, V1, V2, E8 => if x18 < x17 then (raster_fill__raster_Crop_1.l1 k x0 x18 x17 x18 x0 0 G4 G5 G6 G7 G8 G9 V0 V1 V2 E8) else (some (V1, V2, E8))
def raster_fill__raster_Crop_1.l1 : Nat → Int → Int → Int → Int → Int → Int → Int → Int → List (S37) → Int → Int → Int → Int → Int → Int → List (S37) → Option (Int × Int × (List (S37)))
 | 0, _, _, _, _, _, _, _, _, _, _, _, _, _, _, _, _ => none
 | k + 1, x0, x8, x17, x18, x21, x22, G4, G5, G6, G7, G8, G9, V0, V1, V2, E8 => if x22 < x21 then ((raster_Crop_1.f x22 x8 G4 G5 G6 G7 G8 G9 V0).bind fun V3 => (if E8.length < 4398046511104 then (raster_fill__raster_Crop_1.l1 k x0 x8 x17 x18 x21 (wrap64 (x22 + 1)) G4 G5 G6 G7 G8 G9 V0 V1 V2 (E8 ++ [(⟨V3.1, V3.2.1, V3.2.2.1, V3.2.2.2⟩ : S37)])) else (none))) else (raster_fill__raster_Crop_1.l0 k x0 x17 (wrap64 (x18 + 1)) G4 G5 G6 G7 G8 G9 V0 V1 V2 E8)
end
def raster_fill__raster_Crop_1.f (k : Nat) (a0 : Int) (a1 : Int) (a2_0 : Int) (a2_1 : Int) (l2_2 : List (S37)) (a2_3 : Int) (a2_4 : Int) (a2_5 : Int) (a2_6 : Int) : Option (Int × Int × (List (S37))) := if 0 ≤ (wrap64 (a0 * a1)) then (if (wrap64 (a0 * a1) : Int).toNat ≤ 8796093022208 then (raster_fill__raster_Crop_1.l0 k a0 a1 0 a2_0 a2_1 l2_2 a2_3 a2_4 a2_5 a2_6 a0 a1 (([] : List (S37)))) else (none)) else (none)
theorem raster_fill__raster_Crop_1.mono_l : ∀ k, (∀ y0 y1 y2 y3 y4 y5 y6 y7 y8 y9 y10 y11 y12, LeO (raster_fill__raster_Crop_1.l0 k y0 y1 y2 y3 y4 y5 y6 y7 y8 y9 y10 y11 y12) (raster_fill__raster_Crop_1.l0 (k + 1) y0 y1 y2 y3 y4 y5 y6 y7 y8 y9 y10 y11 y12)) ∧ (∀ y0 y1 y2 y3 y4 y5 y6 y7 y8 y9 y10 y11 y12 y13 y14 y15, LeO (raster_fill__raster_Crop_1.l1 k y0 y1 y2 y3 y4 y5 y6 y7 y8 y9 y10 y11 y12 y13 y14 y15) (raster_fill__raster_Crop_1.l1 (k + 1) y0 y1 y2 y3 y4 y5 y6 y7 y8 y9 y10 y11 y12 y13 y14 y15))
 | 0 => ⟨fun _ _ _ _ _ _ _ _ _ _ _ _ _ r h => by simp [raster_fill__raster_Crop_1.l0] at h, fun _ _ _ _ _ _ _ _ _ _ _ _ _ _ _ _ r h => by simp [raster_fill__raster_Crop_1.l1] at h⟩
 | k + 1 => by
  obtain ⟨ih0, ih1⟩ := raster_fill__raster_Crop_1.mono_l k
  refine ⟨?_, ?_⟩
  ·intro y0 y1 y2 y3 y4 y5 y6 y7 y8 y9 y10 y11 y12
   unfold raster_fill__raster_Crop_1.l0
   repeat' first
   | (with_reducible exact ih0 _ _ _ _ _ _ _ _ _ _ _ _ _)
   | (with_reducible exact ih1 _ _ _ _ _ _ _ _ _ _ _ _ _ _ _ _)
   | (with_reducible exact LeO.refl _)
   | (with_reducible exact LeO.none _)
   | (with_reducible refine LeO.ite ?_ ?_)
   | (with_reducible refine LeO.bind ?_ (fun _ => ?_))
   | exact ih0 _ _ _ _ _ _ _ _ _ _ _ _ _
   | exact ih1 _ _ _ _ _ _ _ _ _ _ _ _ _ _ _ _
   | exact LeO.none _
   | refine LeO.ite ?_ ?_
   | refine LeO.bind ?_ (fun _ => ?_)
  ·intro y0 y1 y2 y3 y4 y5 y6 y7 y8 y9 y10 y11 y12 y13 y14 y15
   unfold raster_fill__raster_Crop_1.l1
   repeat' first
   | (with_reducible exact ih0 _ _ _ _ _ _ _ _ _ _ _ _ _)
   | (with_reducible exact ih1 _ _ _ _ _ _ _ _ _ _ _ _ _ _ _ _)
   | (with_reducible exact LeO.refl _)
   | (with_reducible exact LeO.none _)
   | (with_reducible refine LeO.ite ?_ ?_)
   | (with_reducible refine LeO.bind ?_ (fun _ => ?_))
   | exact ih0 _ _ _ _ _ _ _ _ _ _ _ _ _
   | exact ih1 _ _ _ _ _ _ _ _ _ _ _ _ _ _ _ _
   | exact LeO.none _
   | refine LeO.ite ?_ ?_
   | refine LeO.bind ?_ (fun _ => ?_)
theorem raster_fill__raster_Crop_1.mono : ∀ a0 a1 a2 a3 a4 a5 a6 a7 a8 k, LeO (raster_fill__raster_Crop_1.f k a0 a1 a2 a3 a4 a5 a6 a7 a8) (raster_fill__raster_Crop_1.f (k + 1) a0 a1 a2 a3 a4 a5 a6 a7 a8) := by
 intro a0 a1 a2 a3 a4 a5 a6 a7 a8 k
 obtain ⟨ih0, ih1⟩ := raster_fill__raster_Crop_1.mono_l k
 unfold raster_fill__raster_Crop_1.f
 repeat' first
   | (with_reducible exact ih0 _ _ _ _ _ _ _ _ _ _ _ _ _)
   | (with_reducible exact ih1 _ _ _ _ _ _ _ _ _ _ _ _ _ _ _ _)
   | (with_reducible exact LeO.refl _)
   | (with_reducible exact LeO.none _)
   | (with_reducible refine LeO.ite ?_ ?_)
   | (with_reducible refine LeO.bind ?_ (fun _ => ?_))
   | exact ih0 _ _ _ _ _ _ _ _ _ _ _ _ _
   | exact ih1 _ _ _ _ _ _ _ _ _ _ _ _ _ _ _ _
   | exact LeO.none _
   | refine LeO.ite ?_ ?_
   | refine LeO.bind ?_ (fun _ => ?_)
def raster_fill__raster_Crop_1.T8 : Bool × List (List Nat × List Nat) := (true, [([], []), ([0], [0]), ([], []), ([], []), ([], []), ([2, 3, 4], [2, 3, 4]), ([5], [5]), ([1, 6, 5], [1, 6]), ([0, 1, 2, 3, 4, 5, 6, 7], []), ([8, 7, 7, 0, 1, 2, 3, 4, 5, 6, 7], [7, 8])])
def raster_fill__raster_Crop_1.B8 : List Nat := [0, 1, 0, 0, 0, 28, 60, 127, 255, 511]
theorem raster_fill__raster_Crop_1.tab8 : rtab .any (opsOf Try.f34 8) = raster_fill__raster_Crop_1.T8 := by kernel_rfl
theorem raster_fill__raster_Crop_1.bits8 : waitsOk raster_fill__raster_Crop_1.T8.2 raster_fill__raster_Crop_1.B8 = true := by kernel_rfl
set_option maxHeartbeats 8000000 in
set_option maxRecDepth 100000 in
theorem raster_fill__raster_Crop_1.calls (k : Nat) (a0 : Int) (a1 : Int) (E6 : Nat) (E7 : Nat) (a2_0 : Int) (a2_1 : Int) (A2_2 : Option Addr) (c2_2 : Nat) (l2_2 : List (S37)) (a2_3 : Int) (a2_4 : Int) (a2_5 : Int) (a2_6 : Int) (r1 : Int) (r2 : Int) (r3 : List (S37)) (w : World) (hp2_0 : w.heap[E6]? = some (.cells #[.int .i64 a2_0, .int .i64 a2_1, .slice A2_2 l2_2.length c2_2] 24 (0, 0))) (hp2_1 : w.heap[E7]? = some (.cells #[.int .i64 a2_3, .int .i64 a2_4, .int .i64 a2_5, .int .i64 a2_6] 27 (0, 0))) (hr2_2 : Kd.C k37 w A2_2 l2_2.length l2_2) (hc2_2 : l2_2.length ≤ c2_2) (h : raster_fill__raster_Crop_1.f k a0 a1 a2_0 a2_1 l2_2 a2_3 a2_4 a2_5 a2_6 = some (r1, r2, r3)) :
  Calls Try.prog 34 #[.int .i64 a0, .int .i64 a1, .func (.func 35) #[] #[.pointer (some ⟨E6, 0, none⟩), .pointer (some ⟨E7, 0, none⟩)]] w fun e w' => ∃ v2_ : Value, e = .returned (.agg #[.int .i64 r1, .int .i64 r2, v2_]) ∧ Kd.R k37 37 w' w.heap.size (fun _ => True) v2_ r3 ∧ Below w.heap.size w w' := by
 have hu24 := Try.underlying24
 have Z0 := Aside0.mk hr2_2
 have Z1 := Aside0.mk hc2_2
 clear hr2_2 hc2_2
 have E1 := Aside0.mk hp2_0
 have GL483 := Aside0.mk (show E6 < w.heap.size from blk_lt hp2_0)
 clear hp2_0
 have E2 := Aside0.mk hp2_1
 have GL484 := Aside0.mk (show E7 < w.heap.size from blk_lt hp2_1)
 clear hp2_1
 have HB := Aside0.mk (Below.refl w.heap.size w)
 have H : (if 0 ≤ (wrap64 (a0 * a1)) then (if (wrap64 (a0 * a1) : Int).toNat ≤ 8796093022208 then (raster_fill__raster_Crop_1.l0 k a0 a1 0 a2_0 a2_1 l2_2 a2_3 a2_4 a2_5 a2_6 a0 a1 (([] : List (S37)))) else (none)) else (none)) = some (r1, r2, r3) := h
 clear h
 obtain ⟨E5, E9⟩ : ∃ j_ : Int, (wrap64 (a0 * a1)) = j_ := ⟨_, rfl⟩
 replace H : (if 0 ≤ (E5) then (if (E5 : Int).toNat ≤ 8796093022208 then (raster_fill__raster_Crop_1.l0 k a0 a1 0 a2_0 a2_1 l2_2 a2_3 a2_4 a2_5 a2_6 a0 a1 (([] : List (S37)))) else (none)) else (none)) = some (r1, r2, r3) := by first | (rw [E9] at H; exact H) | (simp only [E9] at H ⊢; exact H)
 have Z8 : (IntKind.i64.wrap (a0 * a1)) = E5 := (i64_w _).trans E9
 by_cases c5 : 0 ≤ (E5)
 rotate_left
 ·rw [if_neg c5] at H
  exact absurd H (by simp)

 rw [if_pos c5] at H
 have V9 := eq_true c5
 have Y0 : decide (0 ≤ (E5)) = true := decide_eq_true c5
 clear c5
 by_cases c6 : (E5 : Int).toNat ≤ 8796093022208
 rotate_left
 ·rw [if_neg c6] at H
  exact absurd H (by simp)
 rw [if_pos c6] at H
 have Y1 := eq_true c6
 have Y2 : decide ((E5 : Int).toNat ≤ 8796093022208) = true := decide_eq_true c6
 clear c6
 obtain ⟨y486, hy486⟩ : ∃ y_ : List (S37), y_ = (([] : List (S37))) := ⟨_, rfl⟩
 replace H : (raster_fill__raster_Crop_1.l0 k a0 a1 0 a2_0 a2_1 l2_2 a2_3 a2_4 a2_5 a2_6 a0 a1 y486) = some (r1, r2, r3) := by first | (rw [hy486]; with_reducible exact H) | (have H2_ := (Option.bind_some _ _).symm.trans H; rw [hy486]; with_reducible exact H2_) | (have H2_ := (Option.bind_some _ _).symm.trans H; with_reducible exact H2_) | with_reducible exact H | (rw [hy486]; exact H) | exact H
 have Ny486 := Aside0.mk hy486
 clear hy486
 have H' := Aside0.mk H
 clear H
 go_enter Try.func34, Try.ntmps34
 go_wp2_with (first | ((with_reducible refine gate_dst (N := 6) rfl ?_); refine box_event ?hg (N := 6) ?hd (cs := #[.int .i64 0, .int .i64 0, .slice none 0 0]) (t := 24) ?hr ?_; (case hd => rfl); (case hg => rfl); (case hr => first | (go_simp; done) | (go_simp; rfl)); intro V4 hg w7 hbox hb; have Z9 := zg HB hg; have Z2 := zg HB hg; have Z3 := zn E1 hg; have Z4 := zn' E1 hg; have Z5 := zn E2 hg; have Z6 := zn' E2 hg; have n0_ := Aside0.mk (hbox); replace E1 := zk E1 hb; replace E2 := zk E2 hb; replace HB := zb HB hb; have E3 := n0_; clear n0_; clear hb hbox hg) | ((with_reducible refine gate_dst (N := 15) rfl ?_); refine Kd.R_make0 k37 _ 37 rfl (N := 15) rfl 22 _ _ rfl E5 rfl rfl Try.underlying22 (.agg #[(.int .i64 0), (.int .i64 0), (.int .i64 0), (.int .i64 0)]) 32 info37 rfl (by decide) (by omega) z37 (ok := fun _ => True) (okp := fun _ => True) (k37_mkM _ _ _ z37 ) (fun _ hk => hk) trivial (of_decide_eq_true (by first | (with_reducible assumption) | assumption)) (Nat.le_trans (Nat.mul_le_mul_right _ (of_decide_eq_true (by first | (with_reducible assumption) | assumption) : E5.toNat ≤ 8796093022208)) (by omega)) (Below.refl _ _) (Nat.le_refl _) ?_; intro v487 w8 ho9 hb hg_ hnew_; clear hg_ hnew_; (first | rw [← Ny486.out] at ho9 | (simp only [Int.reduceToNat] at ho9; rw [← Ny486.out] at ho9)); have HO488 := zl HB ho9; replace E1 := zk E1 hb; replace E2 := zk E2 hb; replace E3 := zk E3 hb; replace HB := zb HB hb; clear hb ho9; obtain ⟨Ao10, co10, eo10⟩ := Kd.R_slice HO488.out; subst eo10) | ((with_reducible refine gate_dst (N := 7) rfl ?_); refine box_event ?hg (N := 7) ?hd (cs := #[.int .i64 0, .int .i64 0, .slice none 0 0]) (t := 24) ?hr ?_; (case hd => rfl); (case hg => rfl); (case hr => first | (go_simp; done) | (go_simp; rfl)); intro G0 hg w11 hbox hb; have J0 := zg HB hg; have V5 := zg HB hg; have G1 := zn E1 hg; have V6 := zn' E1 hg; have G2 := zn E2 hg; have V7 := zn' E2 hg; have G3 := zn E3 hg; have V8 := zn' E3 hg; have n0_ := Aside0.mk (hbox); replace HO488 := zr HO488 hb; replace E1 := zk E1 hb; replace E2 := zk E2 hb; replace E3 := zk E3 hb; replace HB := zb HB hb; have E0 := n0_; clear n0_; clear hb hbox hg; have J1 := V6.out; have J2 := G1.out; have J3 := V7.out; have J4 := G2.out; have J5 := V8.out; have J6 := G3.out; obtain ⟨Y3, Y4, Y5, Y6, Y7, Y8⟩ := zq3 E0))
 (try simp only [Act.put, sA, sB, sC])
 go_loopg [18] k (fun kq v18 w' => ∃ (x18_1 : Int) (x490002_1 : List (S37)) (u490002 : Value), v18 = .int .i64 x18_1 ∧ Aside0 (raster_fill__raster_Crop_1.l0 kq a0 a1 x18_1 a2_0 a2_1 l2_2 a2_3 a2_4 a2_5 a2_6 a0 a1 x490002_1 = some (r1, r2, r3)) ∧ Aside0 (kq ≤ k) ∧ Aside0 (Kd.R k37 37 w' w.heap.size (fun _ => True) u490002 x490002_1) ∧ Aside0 (w'.heap[E6]? = some (.cells #[.int .i64 a2_0, .int .i64 a2_1, (.slice A2_2 l2_2.length c2_2)] 24 (0, 0))) ∧ Aside0 (w'.heap[E7]? = some (.cells #[.int .i64 a2_3, .int .i64 a2_4, .int .i64 a2_5, .int .i64 a2_6] 27 (0, 0))) ∧ Aside0 (w'.heap[V4]? = some (.cells #[.int .i64 0, .int .i64 0, (.slice none 0 0)] 24 (0, 0))) ∧ Aside0 (w'.heap[G0]? = some (.cells #[.int .i64 a0, .int .i64 a1, u490002] 24 (0, 0))) ∧ Aside0 (Below w.heap.size w w'))
 case atStart => exact ⟨(0), (y486), (.slice Ao10 y486.length co10), (by first | rfl | (simp; done) | (simp [*]; done)), H', ⟨Nat.le_refl _⟩, ⟨by exact zro HO488 E0 (by decide)⟩, ⟨by exact zf E1 G1⟩, ⟨by exact zf E2 G2⟩, ⟨by exact zf E3 G3⟩, ⟨by exact zp E0 rfl⟩, ⟨by exact zbo HB V5⟩⟩
 case round =>
  clear H'
  try clear c1
  try clear c2
  try clear p2
  try clear c3
  try clear q3
  try clear c5
  try clear V9
  try clear Y0
  try clear c6
  try clear Y1
  try clear Y2
  try clear p6
  try clear c12
  try clear c13
  try clear c14
  try clear Y3
  try clear Y4
  try clear Y5
  try clear Y6
  try clear Y7
  try clear Y8
  obtain ⟨x18_1, x490002_1, u490002, rfl, HA, HK1, E4, E1, E2, E3, E0, HB⟩ := hrel
  cases gk with
  | zero => exact absurd HA.out (by simp [raster_fill__raster_Crop_1.l0])
  | succ k1 =>
   have H := HA.out
   clear HA
   simp only [raster_fill__raster_Crop_1.l0] at H
   by_cases c16 : x18_1 < a1
   rotate_left
   ·rw [if_neg c16] at H
    have Y9 : decide (x18_1 < a1) = false := decide_eq_false c16
    clear c16
    simp only [Option.some.injEq, Prod.mk.injEq] at H
    obtain ⟨rfl, rfl, rfl⟩ := H
    have J7 := V6.out
    have J8 := G1.out
    have J9 := V7.out
    have L0 := G2.out
    have L1 := V8.out
    have L2 := G3.out
    obtain ⟨L3, L4, L5, L6, L7, L8⟩ := zq3 E0
    have L9 := Z4.out
    have Q0 := Z3.out
    have Q1 := Z6.out
    have Q2 := Z5.out
    obtain ⟨Q3, Q4, Q5, Q6, Q7, Q8⟩ := zq3 E3
    obtain ⟨Ao32, co32, eo32⟩ := Kd.R_slice E4.out
    subst eo32
    go_wp2
    refine bodyPost_ret (results_cell_row rfl _ _ V4 24 #[.int .i64 a0, .int .i64 a1, .slice Ao32 x490002_1.length co32] (0, 0) _ rfl (by exact zp E3 rfl) Try.underlying24 rfl (by kernel_rfl)) rfl ?_
    exact ⟨_, by first | rfl | (simp [errW_none, errW_some] <;> rfl) | (simp only [← E9]; first | rfl | (simp [errW_none, errW_some] <;> rfl)) | (simp [*, errW_none, errW_some] <;> rfl), by exact zro E4 E3 (by decide), by exact zbo HB Z2⟩
   rw [if_pos c16] at H
   have Y9 : decide (x18_1 < a1) = true := decide_eq_true c16
   clear c16
   have H' := Aside0.mk H
   clear H
   go_wp2
   go_loopg [22] k1 (fun kq v22 w' => ∃ (x22_2 : Int) (x490002_2 : List (S37)) (u490002 : Value), v22 = .int .i64 x22_2 ∧ Aside0 (raster_fill__raster_Crop_1.l1 kq a0 x18_1 a1 x18_1 a0 x22_2 a2_0 a2_1 l2_2 a2_3 a2_4 a2_5 a2_6 a0 a1 x490002_2 = some (r1, r2, r3)) ∧ Aside0 (kq ≤ k1) ∧ Aside0 (Kd.R k37 37 w' w.heap.size (fun _ => True) u490002 x490002_2) ∧ Aside0 (w'.heap[E6]? = some (.cells #[.int .i64 a2_0, .int .i64 a2_1, (.slice A2_2 l2_2.length c2_2)] 24 (0, 0))) ∧ Aside0 (w'.heap[E7]? = some (.cells #[.int .i64 a2_3, .int .i64 a2_4, .int .i64 a2_5, .int .i64 a2_6] 27 (0, 0))) ∧ Aside0 (w'.heap[V4]? = some (.cells #[.int .i64 0, .int .i64 0, (.slice none 0 0)] 24 (0, 0))) ∧ Aside0 (w'.heap[G0]? = some (.cells #[.int .i64 a0, .int .i64 a1, u490002] 24 (0, 0))) ∧ Aside0 (Below w.heap.size w w'))
   case atStart => exact ⟨(0), (x490002_1), (u490002), (by first | rfl | (simp; done) | (simp [*]; done)), H', ⟨Nat.le_refl _⟩, ⟨by exact zr0 E4⟩, ⟨by exact zk0 E1⟩, ⟨by exact zk0 E2⟩, ⟨by exact zk0 E3⟩, ⟨by exact zk0 E0⟩, ⟨by exact zb0 HB⟩⟩
   case round =>
    clear H'
    try clear c1
    try clear c2
    try clear p2
    try clear c3
    try clear q3
    try clear c5
    try clear V9
    try clear Y0
    try clear c6
    try clear Y1
    try clear Y2
    try clear p6
    try clear c12
    try clear c13
    try clear c14
    try clear c16
    try clear Y9
    try clear Y3
    try clear Y4
    try clear Y5
    try clear Y6
    try clear Y7
    try clear Y8
    try clear p2
    try clear p6
    try clear q3
    obtain ⟨x22_2, x490002_2, u490002, rfl, HA, HK2, E4, E1, E2, E3, E0, HB⟩ := hrel
    cases gk with
    | zero => exact absurd HA.out (by simp [raster_fill__raster_Crop_1.l1])
    | succ k2 =>
     have H := HA.out
     clear HA
     simp only [raster_fill__raster_Crop_1.l1] at H
     by_cases c17 : x22_2 < a0
     rotate_left
     ·rw [if_neg c17] at H
      have Z7 : decide (x22_2 < a0) = false := decide_eq_false c17
      clear c17
      have H' := Aside0.mk H
      clear H
      go_wp2
      first | go_roundg k2 | ((try subst E9); go_roundg k2)
      case measure => have := HK1.out; have := HK2.out; omega
      case rel => first | (exact ⟨(wrap64 (x18_1 + 1)), (x490002_2), (u490002), (by first | rfl | (simp; done) | (simp [*]; done)), H', ⟨by have := HK1.out; have := HK2.out; omega⟩, ⟨by exact zr0 E4⟩, ⟨by exact zk0 E1⟩, ⟨by exact zk0 E2⟩, ⟨by exact zk0 E3⟩, ⟨by exact zk0 E0⟩, ⟨by exact zb0 HB⟩⟩) | (exact ⟨(wrap64 (x18_1 + 1)), (x490002_2), (u490002), (by first | rfl | (simp; done) | (simp [*]; done)), H', ⟨by have := HK1.out; have := HK2.out; omega⟩, ⟨by exact zr0 E4⟩, ⟨by exact zk0 E1⟩, ⟨by exact zk0 E2⟩, ⟨by exact zk0 E3⟩, ⟨by exact zk0 E0⟩, ⟨by exact zb0 HB⟩⟩)
     rw [if_pos c17] at H
     have Z7 : decide (x22_2 < a0) = true := decide_eq_true c17
     clear c17
     replace H := Option.bind_eq_some_iff.mp H
     obtain ⟨⟨t490, t491, t492, t493⟩, A180, H⟩ := H
     try dsimp only at H
     have A18 := Aside0.mk A180
     clear A180
     by_cases c19 : x490002_2.length < 4398046511104
     rotate_left
     ·rw [if_neg c19] at H
      exact absurd H (by simp)
     rw [if_pos c19] at H
     have LMc19 := Aside0.mk c19
     clear c19
     obtain ⟨y494, hy494⟩ : ∃ y_ : List (S37), y_ = (x490002_2 ++ [(⟨t490, t491, t492, t493⟩ : S37)]) := ⟨_, rfl⟩
     replace H : (raster_fill__raster_Crop_1.l1 k2 a0 x18_1 a1 x18_1 a0 (wrap64 (x22_2 + 1)) a2_0 a2_1 l2_2 a2_3 a2_4 a2_5 a2_6 a0 a1 y494) = some (r1, r2, r3) := by first | (rw [hy494]; with_reducible exact H) | (have H2_ := (Option.bind_some _ _).symm.trans H; rw [hy494]; with_reducible exact H2_) | (have H2_ := (Option.bind_some _ _).symm.trans H; with_reducible exact H2_) | with_reducible exact H | (rw [hy494]; exact H) | exact H
     have Ny494 := Aside0.mk hy494
     clear hy494
     have H' := Aside0.mk H
     clear H
     try go_wp2
     replace E4 := zrd E4
     replace E1 := zkd E1
     replace E2 := zkd E2
     replace E3 := zkd E3
     replace E0 := zkd E0
     replace HB := zbd HB
     refine start_ (n := 10) (S := fun w' => w'.cell? ⟨G0, 0, none⟩ = some (.int .i64 a0) ∧ w'.cell? ⟨G0, 1, none⟩ = some (.int .i64 a1) ∧ w'.cell? ⟨G0, 2, none⟩ = some (u490002)) (ds := [9]) (bs 10 0) (by kernel_rfl) rfl rfl ⟨(blk_cell E0.out 0).trans rfl, (blk_cell E0.out 1).trans rfl, (blk_cell E0.out 2).trans rfl⟩ (fun hHeld => ?_); refine with_tabW raster_fill__raster_Crop_1.tab8 raster_fill__raster_Crop_1.bits8 (fun HT_ HW_ => ?_)
     generalize wr.drew = w20 at E4 E1 E2 E3 E0 HB hHeld ⊢
     refine pure_ (i := 0) (N := some 25) (v := ?_) (a' := ?_) (bs 10 1) rfl rfl (any_of HT_.out (by kernel_rfl)) (fun _ _ _ h => h) (Or.inl ⟨by rfl, ?_⟩) ?_ ?_
     rotate_left
     ·intro w'
      go_simp
      with_reducible rfl
     rotate_left
     ·simp only [Act.put, sA, sB, sC, i64_w, i32_w]
      rfl
     refine pure_ (i := 2) (N := some 27) (v := ?_) (a' := ?_) (bs 10 5) rfl rfl (any_of HT_.out (by kernel_rfl)) (fun _ _ _ h => h) (Or.inl ⟨by rfl, ?_⟩) ?_ ?_
     rotate_left
     ·intro w'
      go_simp
      with_reducible rfl
     rotate_left
     ·simp only [Act.put, sA, sB, sC, i64_w, i32_w]
      rfl
     refine pure_ (i := 3) (N := some 28) (v := ?_) (a' := ?_) (bs 10 13) rfl rfl (any_of HT_.out (by kernel_rfl)) (fun _ _ _ h => h) (Or.inl ⟨by rfl, ?_⟩) ?_ ?_
     rotate_left
     ·intro w'
      go_simp
      with_reducible rfl
     rotate_left
     ·simp only [Act.put, sA, sB, sC, i64_w, i32_w]
      rfl
     refine pure_ (i := 4) (N := some 29) (v := ?_) (a' := ?_) (bs 10 29) rfl rfl (any_of HT_.out (by kernel_rfl)) (fun _ _ _ h => h) (Or.inl ⟨by rfl, ?_⟩) ?_ ?_
     rotate_left
     ·intro w'
      go_simp
      with_reducible rfl
     rotate_left
     ·simp only [Act.put, sA, sB, sC, i64_w, i32_w]
      rfl
     refine take_ (i := 1) (N := some 26) (v := ?_) (a' := ?_) (bs 10 31) rfl rfl (take_ofW HT_.out HW_.out (by kernel_rfl)) (fun _ _ _ h => h) (Or.inl ⟨by rfl, ?_⟩) hHeld ?_ ?_
     rotate_left
     ·rintro w' ⟨s0, s1, s2⟩
      go_simp
      with_reducible rfl
     rotate_left
     ·simp only [Act.put, sA, sB, sC, i64_w, i32_w]
      rfl
     refine one_ (i := 5) (N := some 30) (bs 10 63) rfl rfl (one_of HT_.out (by kernel_rfl)) (by decide) (fun K hK => ?_)
     refine goesT_ (t := 27) Try.func35 (by kernel_rfl) rfl #[.pointer (some ⟨E6, 0, none⟩), .pointer (some ⟨E7, 0, none⟩)] #[.int .i64 x22_2, .int .i64 x18_1, .pointer (some ⟨E6, 0, none⟩), .pointer (some ⟨E7, 0, none⟩)] (by rfl) rfl rfl (by first | rfl | (go_simp; done) | (go_simp; rfl)) (by (try simp only [List.map_toArray, List.map_cons, List.map_nil]); first | done | rfl | (go_simp; done) | (go_simp; rfl)) ?_
     with_reducible refine (raster_Crop_1.calls x22_2 x18_1 E6 a2_0 a2_1 A2_2 c2_2 l2_2 E7 a2_3 a2_4 a2_5 a2_6 t490 t491 t492 t493 _ ?side1 ?side2 ?side3 ?side4 A18.out).mono ?_
     (case side1 => exact zk0 E1)
     (case side2 => repeat (first | exact (Kd.C_below Z0.out HB.out) | (with_reducible refine Kd.C_alloc ?_ _) | (with_reducible refine Kd.C_drewN ?_ _) | (with_reducible refine Kd.C_drew ?_)))
     (case side3 => exact Z1.out)
     (case side4 => exact zk0 E2)
     rintro e w21 ⟨rfl, hb⟩
     refine ⟨_, rfl, ?_⟩
     replace E4 := zr E4 hb
     replace E1 := zk E1 hb
     replace E2 := zk E2 hb
     replace E3 := zk E3 hb
     replace E0 := zk E0 hb
     replace HB := zb HB hb
     (try clear hb)
     (try clear hb2)
     (try clear hk)
     (try clear hi)
     refine hK.out _ _ ⟨(blk_cell E0.out 0).trans rfl, (blk_cell E0.out 1).trans rfl, (blk_cell E0.out 2).trans rfl⟩ (fun hHeld => ?_)
     clear hK K
     refine norm_ (a' := ?_) ?_ ?_
     rotate_left
     ·show Act.put _ (some 30) _ = _
      simp only [Act.put, sA, sB, sC, i64_w, i32_w]
      rfl
     refine one_ (i := 6) (N := some 31) (bs 10 127) rfl rfl (one_of HT_.out (by kernel_rfl)) (by decide) (fun K hK => ?_)
     refine value_ (w1 := ?_) (v := ?_) (by rfl) rfl ?_ ?_
     rotate_left 2
     ·go_simp
      constructor
      ·rfl
      ·rfl
     refine hK.out _ _ ⟨(blk_cell (blk_alloc E0.out _) 0).trans rfl, (blk_cell (blk_alloc E0.out _) 1).trans rfl, (blk_cell (blk_alloc E0.out _) 2).trans rfl⟩ (fun hHeld => ?_)
     clear hK K
     refine norm_ (a' := ?_) ?_ ?_
     rotate_left
     ·show Act.put _ (some 31) _ = _
      simp only [Act.put, sA, sB, sC, i64_w, i32_w]
      rfl
     refine one_ (i := 7) (N := some 32) (bs 10 255) rfl rfl (one_of HT_.out (by kernel_rfl)) (by decide) (fun K hK => ?_)
     refine Kd.R_append_step k37 (w0 := w) w.heap.size (by rfl) (.tmp 26) (.tmp 31) 22 37 (.agg #[(.int .i64 0), (.int .i64 0), (.int .i64 0), (.int .i64 0)]) 32 rfl Try.underlying22 info37 rfl (by decide) (by omega) u490002 x490002_2 (⟨t490, t491, t492, t493⟩ : S37) [.int .i64 t490, .int .i64 t491, .int .i64 t492, .int .i64 t493] (fun _ => True) (fun _ => False) rfl rfl ?aP (fun _ hk => hk.elim) ?aF ?aO ?aB ?aS ?aL ?_
     (case aP => exact k37_mkM _ _ _ (⟨t490, t491, t492, t493⟩ : S37))
     (case aB => exact (by exact zb0 HB))
     (case aF => exact (fun _ _ => trivial))
     (case aO => exact (by exact zr0 E4))
     (case aS => exact (below_size (by exact zb0 HB)))
     (case aL => have := LMc19.out; omega)
     intro v495 w22 ho hb hg hat
     rw [← Ny494.out] at ho
     have n0_ := Aside0.mk (blk_grown (zk0 E1) hg (fun e_ => Nat.not_le.2 GL483.out (Kd.R_base E4.out _ e_.symm)))
     have n1_ := Aside0.mk (blk_grown (zk0 E2) hg (fun e_ => Nat.not_le.2 GL484.out (Kd.R_base E4.out _ e_.symm)))
     have n2_ := Aside0.mk (blk_grown (zk0 E3) hg (Kd.R_ne E4.out E3.out (by decide)))
     have n3_ := Aside0.mk (blk_grown (zk0 E0) hg (Kd.R_ne E4.out E0.out (by decide)))
     have n4_ := Aside0.mk (hb)
     have n5_ := Aside0.mk (ho)
     clear E1
     clear E2
     clear E3
     clear E0
     clear HB
     clear E4
     have E1 := n0_
     have E2 := n1_
     have E3 := n2_
     have E0 := n3_
     have HB := n4_
     have HO496 := n5_
     clear n0_ n1_ n2_ n3_ n4_ n5_
     clear ho hb hg hat
     obtain ⟨Ao23, co23, eo23⟩ := Kd.R_slice HO496.out
     (first | subst eo23 | (injection eo23 with f1_ f2_ f3_; have f4_ := f1_.symm; have f5_ := f3_.symm; clear f1_ f2_ f3_; subst f4_; subst f5_))
     refine hK.out _ _ ⟨(blk_cell E0.out 0).trans rfl, (blk_cell E0.out 1).trans rfl, (blk_cell E0.out 2).trans rfl⟩ (fun hHeld => ?_)
     clear hK K
     refine norm_ (a' := ?_) ?_ ?_
     rotate_left
     ·show Act.put _ (some 32) _ = _
      simp only [Act.put, sA, sB, sC, i64_w, i32_w]
      rfl
     refine pure_ (i := 8) (N := some 33) (v := ?_) (a' := ?_) (bs 10 511) rfl rfl (any_of HT_.out (by kernel_rfl)) (fun _ _ _ h => h) (Or.inl ⟨by rfl, ?_⟩) ?_ ?_
     rotate_left
     ·intro w'
      go_simp
      with_reducible rfl
     rotate_left
     ·simp only [Act.put, sA, sB, sC, i64_w, i32_w]
      rfl
     refine last_ (i := 9) (N := none) (bs 10 1023) rfl rfl (one_of HT_.out (by kernel_rfl)) (by decide) (fun K hK => ?_)
     have hs24 : w22.cell? ⟨G0, 2, none⟩ = some (u490002) := (blk_cell E0.out 2).trans rfl
     have hfs24 := blk_frozen E0.out 2
     have Q9 := G1.out
     have E0a := G2.out
     have E0b := G3.out
     have E0c := V6.out
     have E0d := V7.out
     have E0e := V8.out
     refine skip_ (w1 := ?_) (by rfl) rfl ?_ ?_
     rotate_left
     ·go_simp
      rfl
     refine hK.out _ _ ?_
     clear hK K
     refine done_ (done_of HT_.out (by kernel_rfl)) ?_
     try go_wp2
     first | go_roundg k2 | ((try subst E9); go_roundg k2)
     case measure => have := HK1.out; have := HK2.out; omega
     case rel => first | (exact ⟨(wrap64 (x22_2 + 1)), (y494), (.slice Ao23 y494.length co23), (by first | rfl | (simp; done) | (simp [*]; done)), H', ⟨by have := HK1.out; have := HK2.out; omega⟩, ⟨by exact zro HO496 E0 (by decide)⟩, ⟨by exact zf E1 G1⟩, ⟨by exact zf E2 G2⟩, ⟨by exact zf E3 G3⟩, ⟨by exact zp E0 rfl⟩, ⟨by exact zbo HB V5⟩⟩) | (exact ⟨(wrap64 (x22_2 + 1)), (y494), (.slice Ao23 y494.length co23), (by first | rfl | (simp; done) | (simp [*]; done)), H', ⟨by have := HK1.out; have := HK2.out; omega⟩, ⟨by exact zro HO496 E0 (by decide)⟩, ⟨by exact zf E1 G1⟩, ⟨by exact zf E2 G2⟩, ⟨by exact zf E3 G3⟩, ⟨by exact zp E0 rfl⟩, ⟨by exact zbo HB V5⟩⟩)
/-! ### raster_Crop: function 16 -/
def raster_Crop.j0 : Nat → Bool → Int → Int → List (S37) → Int → Int → Int → Int → Option (Int × Int × (List (S37)) × Int)
 | 0, _, _, _, _, _, _, _, _ => none
 | k + 1, x24, V8, V9, Y0, G9, V0, G6, G7 => if x24 = true then (some (0, 0, ([] : List (S37)), 15)) else ((rect_Empty.f G9 V0 G6 G7).bind fun t502 => (if t502 = true then (some (0, 0, ([] : List (S37)), 0)) else ((raster_fill__raster_Crop_1.f k G6 G7 V8 V9 Y0 G9 V0 G6 G7).bind fun G8 => (some (G8.1, G8.2.1, G8.2.2, 0)))))
def raster_Crop.f (k : Nat) (a0_0 : Int) (a0_1 : Int) (l0_2 : List (S37)) (a1_0 : Int) (a1_1 : Int) (a1_2 : Int) (a1_3 : Int) : Option (Int × Int × (List (S37)) × Int) := (raster_Check.f k a0_0 a0_1 l0_2).bind fun t500 => (if t500 = 0 then ((rect_Valid.f a1_0 a1_1 a1_2 a1_3).bind fun t501 => (if t501 = true then (if a1_2 > 256 then (raster_Crop.j0 k true a0_0 a0_1 l0_2 a1_0 a1_1 a1_2 a1_3) else (raster_Crop.j0 k (decide (a1_3 > 256)) a0_0 a0_1 l0_2 a1_0 a1_1 a1_2 a1_3)) else (some (0, 0, ([] : List (S37)), 2)))) else (some (0, 0, ([] : List (S37)), t500)))
theorem raster_Crop.mono_l : ∀ k, (∀ y0 y1 y2 y3 y4 y5 y6 y7, LeO (raster_Crop.j0 k y0 y1 y2 y3 y4 y5 y6 y7) (raster_Crop.j0 (k + 1) y0 y1 y2 y3 y4 y5 y6 y7))
 | 0 => fun _ _ _ _ _ _ _ _ r h => by simp [raster_Crop.j0] at h
 | k + 1 => by
  have ih0 := raster_Crop.mono_l k
  ·intro y0 y1 y2 y3 y4 y5 y6 y7
   unfold raster_Crop.j0
   repeat' first
   | (with_reducible exact ih0 _ _ _ _ _ _ _ _)
   | (with_reducible exact raster_Check.mono _ _ _ _)
   | (with_reducible exact raster_fill__raster_Crop_1.mono _ _ _ _ _ _ _ _ _ _)
   | (with_reducible exact LeO.refl _)
   | (with_reducible exact LeO.none _)
   | (with_reducible refine LeO.ite ?_ ?_)
   | (with_reducible refine LeO.bind ?_ (fun _ => ?_))
   | exact ih0 _ _ _ _ _ _ _ _
   | exact raster_Check.mono _ _ _ _
   | exact raster_fill__raster_Crop_1.mono _ _ _ _ _ _ _ _ _ _
   | exact LeO.none _
   | refine LeO.ite ?_ ?_
   | refine LeO.bind ?_ (fun _ => ?_)
theorem raster_Crop.mono : ∀ a0 a1 a2 a3 a4 a5 a6 k, LeO (raster_Crop.f k a0 a1 a2 a3 a4 a5 a6) (raster_Crop.f (k + 1) a0 a1 a2 a3 a4 a5 a6) := by
 intro a0 a1 a2 a3 a4 a5 a6 k
 have ih0 := raster_Crop.mono_l k
 unfold raster_Crop.f
 repeat' first
   | (with_reducible exact ih0 _ _ _ _ _ _ _ _)
   | (with_reducible exact raster_Check.mono _ _ _ _)
   | (with_reducible exact raster_fill__raster_Crop_1.mono _ _ _ _ _ _ _ _ _ _)
   | (with_reducible exact LeO.refl _)
   | (with_reducible exact LeO.none _)
   | (with_reducible refine LeO.ite ?_ ?_)
   | (with_reducible refine LeO.bind ?_ (fun _ => ?_))
   | exact ih0 _ _ _ _ _ _ _ _
   | exact raster_Check.mono _ _ _ _
   | exact raster_fill__raster_Crop_1.mono _ _ _ _ _ _ _ _ _ _
   | exact LeO.none _
   | refine LeO.ite ?_ ?_
   | refine LeO.bind ?_ (fun _ => ?_)
set_option maxHeartbeats 8000000 in
set_option maxRecDepth 100000 in
theorem raster_Crop.calls (k : Nat) (a0_0 : Int) (a0_1 : Int) (A0_2 : Option Addr) (c0_2 : Nat) (l0_2 : List (S37)) (a1_0 : Int) (a1_1 : Int) (a1_2 : Int) (a1_3 : Int) (r1 : Int) (r2 : Int) (r3 : List (S37)) (r4 : Int) (w : World) (hr0_2 : Kd.C k37 w A0_2 l0_2.length l0_2) (hc0_2 : l0_2.length ≤ c0_2) (h : raster_Crop.f k a0_0 a0_1 l0_2 a1_0 a1_1 a1_2 a1_3 = some (r1, r2, r3, r4)) :
  Calls Try.prog 16 #[.agg #[.int .i64 a0_0, .int .i64 a0_1, .slice A0_2 l0_2.length c0_2], .agg #[.int .i64 a1_0, .int .i64 a1_1, .int .i64 a1_2, .int .i64 a1_3]] w fun e w' => ∃ v2_ : Value, e = .returned (.tuple #[.agg #[.int .i64 r1, .int .i64 r2, v2_], .int .i64 r4]) ∧ Kd.R k37 37 w' w.heap.size (fun _ => True) v2_ r3 ∧ Below w.heap.size w w' := by
 have hu24 := Try.underlying24
 have hu27 := Try.underlying27
 have G4 := Aside0.mk hr0_2
 have G5 := Aside0.mk hc0_2
 clear hr0_2 hc0_2
 have HB := Aside0.mk (Below.refl w.heap.size w)
 have H : ((raster_Check.f k a0_0 a0_1 l0_2).bind fun t500 => (if t500 = 0 then ((rect_Valid.f a1_0 a1_1 a1_2 a1_3).bind fun t501 => (if t501 = true then (if a1_2 > 256 then (raster_Crop.j0 k true a0_0 a0_1 l0_2 a1_0 a1_1 a1_2 a1_3) else (raster_Crop.j0 k (decide (a1_3 > 256)) a0_0 a0_1 l0_2 a1_0 a1_1 a1_2 a1_3)) else (some (0, 0, ([] : List (S37)), 2)))) else (some (0, 0, ([] : List (S37)), t500)))) = some (r1, r2, r3, r4) := h
 clear h
 replace H := Option.bind_eq_some_iff.mp H
 obtain ⟨t500, A30, H⟩ := H
 try dsimp only at H
 have A3 := Aside0.mk A30
 clear A30
 by_cases c4 : t500 = 0
 rotate_left
 ·rw [if_neg c4] at H
  have V1 : (t500 == 0) = false := beq_eq_false_iff_ne.mpr c4
  have V2 : (t500 != 0) = true := bne_iff_ne.mpr c4
  simp only [Option.some.injEq, Prod.mk.injEq] at H
  obtain ⟨rfl, rfl, rfl, rfl⟩ := H
  go_enter Try.func16, Try.ntmps16
  go_wp2_with (first | ((with_reducible refine gate_dst (N := 2) rfl ?_); refine box_event ?hg (N := 2) ?hd (cs := #[.int .i64 a0_0, .int .i64 a0_1, .slice A0_2 l0_2.length c0_2]) (t := 24) ?hr ?_; (case hd => rfl); (case hg => rfl); (case hr => first | (go_simp; done) | (go_simp; rfl)); intro G2 hg w51 hbox hb; have V3 := zg HB hg; have V4 := zg HB hg; have n0_ := Aside0.mk (hbox); replace HB := zb HB hb; have E0 := n0_; clear n0_; clear hb hbox hg) | ((with_reducible refine gate_dst (N := 3) rfl ?_); refine box_event ?hg (N := 3) ?hd (cs := #[.int .i64 a1_0, .int .i64 a1_1, .int .i64 a1_2, .int .i64 a1_3]) (t := 27) ?hr ?_; (case hd => rfl); (case hg => rfl); (case hr => first | (go_simp; done) | (go_simp; rfl)); intro G3 hg w52 hbox hb; have V5 := zg HB hg; have V6 := zg HB hg; have E9 := zn E0 hg; have G0 := zn' E0 hg; have n0_ := Aside0.mk (hbox); replace E0 := zk E0 hb; replace HB := zb HB hb; have E1 := n0_; clear n0_; clear hb hbox hg) | ((with_reducible refine gate_dst (N := 4) rfl ?_); refine box_event ?hg (N := 4) ?hd (cs := #[.int .i64 0, .int .i64 0, .slice none 0 0]) (t := 24) ?hr ?_; (case hd => rfl); (case hg => rfl); (case hr => first | (go_simp; done) | (go_simp; rfl)); intro E3 hg w53 hbox hb; have V7 := zg HB hg; have E4 := zg HB hg; have E5 := zn E0 hg; have E6 := zn' E0 hg; have E7 := zn E1 hg; have E8 := zn' E1 hg; have n0_ := Aside0.mk (hbox); replace E0 := zk E0 hb; replace E1 := zk E1 hb; replace HB := zb HB hb; have E2 := n0_; clear n0_; clear hb hbox hg; have L1 := E9.out; have L2 := G0.out; have L3 := E5.out; have L4 := E6.out; obtain ⟨L5, L6, L7, L8, L9, Q0⟩ := zq3 E0) | ((with_reducible refine gate_callee (f := 11) rfl ?_); refine goesL_ (some 8) rfl rfl Try.func11 (by kernel_rfl) rfl #[.agg #[.int .i64 a0_0, .int .i64 a0_1, .slice A0_2 l0_2.length c0_2]] rfl (by (try simp only [List.map_toArray, List.map_cons, List.map_nil]); first | done | rfl | (simp only [List.length_drop, List.length_take]; rfl)) ?_; (with_reducible refine (raster_Check.calls k a0_0 a0_1 _ _ l0_2 t500 _ ?side1 ?side2 A3.out).mono ?_); (case side1 => repeat (first | exact (Kd.C_below G4.out HB.out) | (with_reducible refine Kd.C_alloc ?_ _) | (with_reducible refine Kd.C_drewN ?_ _) | (with_reducible refine Kd.C_drew ?_))); (case side2 => exact G5.out); rintro e w57 ⟨rfl, hb⟩; refine ⟨_, rfl, ?_⟩; replace E0 := zk E0 hb; replace E1 := zk E1 hb; replace E2 := zk E2 hb; replace HB := zb HB hb; (try clear hb); have Q1 := E8.out; have Q2 := E7.out; obtain ⟨Q3, Q4, Q5, Q6, Q7, Q8⟩ := zq3 E2))
  refine bodyPost_ret (results_ct rfl _ _ E3 24 #[.int .i64 0, .int .i64 0, .slice none 0 0] (0, 0) _ rfl (by exact zp E2 rfl) Try.underlying24 rfl (by kernel_rfl)) rfl ?_
  exact ⟨_, by first | rfl | (simp [errW_none, errW_some] <;> rfl) | (simp [*, errW_none, errW_some] <;> rfl), by first | exact Kd.R_nil _ _ _ _ _ | exact Kd.N_nil _ _ _ _ _ | exact Kd.V_nil _ _ _ _ _ | exact Kd.Q_nil _ _ _ _ _ | exact Kd.S_nil _ _ _ _ _, by exact zbo HB E4⟩

 rw [if_pos c4] at H
 have V1 : (t500 == 0) = true := beq_iff_eq.mpr c4
 have V2 : (t500 != 0) = false := bne_eq_false_iff_eq.mpr c4
 clear c4
 replace H := Option.bind_eq_some_iff.mp H
 obtain ⟨t501, A50, H⟩ := H
 try dsimp only at H
 have A5 := Aside0.mk A50
 clear A50
 by_cases c6 : t501 = true
 rotate_left
 ·replace c6 := Bool.eq_false_iff.mpr c6
  subst c6
  rw [if_neg (show ¬ (false = true) by decide)] at H
  simp only [Option.some.injEq, Prod.mk.injEq] at H
  obtain ⟨rfl, rfl, rfl, rfl⟩ := H
  go_enter Try.func16, Try.ntmps16
  go_wp2_with (first | ((with_reducible refine gate_dst (N := 2) rfl ?_); refine box_event ?hg (N := 2) ?hd (cs := #[.int .i64 a0_0, .int .i64 a0_1, .slice A0_2 l0_2.length c0_2]) (t := 24) ?hr ?_; (case hd => rfl); (case hg => rfl); (case hr => first | (go_simp; done) | (go_simp; rfl)); intro G2 hg w40 hbox hb; have V3 := zg HB hg; have V4 := zg HB hg; have n0_ := Aside0.mk (hbox); replace HB := zb HB hb; have E0 := n0_; clear n0_; clear hb hbox hg) | ((with_reducible refine gate_dst (N := 3) rfl ?_); refine box_event ?hg (N := 3) ?hd (cs := #[.int .i64 a1_0, .int .i64 a1_1, .int .i64 a1_2, .int .i64 a1_3]) (t := 27) ?hr ?_; (case hd => rfl); (case hg => rfl); (case hr => first | (go_simp; done) | (go_simp; rfl)); intro G3 hg w41 hbox hb; have V5 := zg HB hg; have V6 := zg HB hg; have E9 := zn E0 hg; have G0 := zn' E0 hg; have n0_ := Aside0.mk (hbox); replace E0 := zk E0 hb; replace HB := zb HB hb; have E1 := n0_; clear n0_; clear hb hbox hg) | ((with_reducible refine gate_dst (N := 4) rfl ?_); refine box_event ?hg (N := 4) ?hd (cs := #[.int .i64 0, .int .i64 0, .slice none 0 0]) (t := 24) ?hr ?_; (case hd => rfl); (case hg => rfl); (case hr => first | (go_simp; done) | (go_simp; rfl)); intro E3 hg w42 hbox hb; have V7 := zg HB hg; have E4 := zg HB hg; have E5 := zn E0 hg; have E6 := zn' E0 hg; have E7 := zn E1 hg; have E8 := zn' E1 hg; have n0_ := Aside0.mk (hbox); replace E0 := zk E0 hb; replace E1 := zk E1 hb; replace HB := zb HB hb; have E2 := n0_; clear n0_; clear hb hbox hg; have Q9 := E9.out; have E0a := G0.out; have E0b := E5.out; have E0c := E6.out; obtain ⟨E0d, E0e, E0f, E0g, E0h, E0i⟩ := zq3 E0) | ((with_reducible refine gate_callee (f := 11) rfl ?_); refine goesL_ (some 8) rfl rfl Try.func11 (by kernel_rfl) rfl #[.agg #[.int .i64 a0_0, .int .i64 a0_1, .slice A0_2 l0_2.length c0_2]] rfl (by (try simp only [List.map_toArray, List.map_cons, List.map_nil]); first | done | rfl | (simp only [List.length_drop, List.length_take]; rfl)) ?_; (with_reducible refine (raster_Check.calls k a0_0 a0_1 _ _ l0_2 t500 _ ?side1 ?side2 A3.out).mono ?_); (case side1 => repeat (first | exact (Kd.C_below G4.out HB.out) | (with_reducible refine Kd.C_alloc ?_ _) | (with_reducible refine Kd.C_drewN ?_ _) | (with_reducible refine Kd.C_drew ?_))); (case side2 => exact G5.out); rintro e w46 ⟨rfl, hb⟩; refine ⟨_, rfl, ?_⟩; replace E0 := zk E0 hb; replace E1 := zk E1 hb; replace E2 := zk E2 hb; replace HB := zb HB hb; (try clear hb); have E0j := E7.out; have E0k := E8.out; obtain ⟨E0l, E0m, E0n, E0o, E0p, E0q, E0r, E0s⟩ := zq4 E1) | ((with_reducible refine gate_callee (f := 24) rfl ?_); refine goesL_ (some 14) rfl rfl Try.func24 (by kernel_rfl) rfl #[.agg #[.int .i64 a1_0, .int .i64 a1_1, .int .i64 a1_2, .int .i64 a1_3]] rfl (by (try simp only [List.map_toArray, List.map_cons, List.map_nil]); first | done | rfl | (simp only [List.length_drop, List.length_take]; rfl)) ?_; (with_reducible refine (rect_Valid.calls a1_0 a1_1 a1_2 a1_3 false _ A5.out).mono ?_); rintro e w49 ⟨rfl, hb⟩; refine ⟨_, rfl, ?_⟩; replace E0 := zk E0 hb; replace E1 := zk E1 hb; replace E2 := zk E2 hb; replace HB := zb HB hb; (try clear hb); obtain ⟨E0t, E0u, E0v, E0w, E0x, E0y⟩ := zq3 E2))
  refine bodyPost_ret (results_ct rfl _ _ E3 24 #[.int .i64 0, .int .i64 0, .slice none 0 0] (0, 0) _ rfl (by exact zp E2 rfl) Try.underlying24 rfl (by kernel_rfl)) rfl ?_
  exact ⟨_, by first | rfl | (simp [errW_none, errW_some] <;> rfl) | (simp [*, errW_none, errW_some] <;> rfl), by first | exact Kd.R_nil _ _ _ _ _ | exact Kd.N_nil _ _ _ _ _ | exact Kd.V_nil _ _ _ _ _ | exact Kd.Q_nil _ _ _ _ _ | exact Kd.S_nil _ _ _ _ _, by exact zbo HB E4⟩
 subst c6
 rw [if_pos rfl] at H
 have HC7 := Aside0.mk H
 clear H
 go_enter Try.func16, Try.ntmps16
 go_upto_region 6 with (first | ((with_reducible refine gate_dst (N := 2) rfl ?_); refine box_event ?hg (N := 2) ?hd (cs := #[.int .i64 a0_0, .int .i64 a0_1, .slice A0_2 l0_2.length c0_2]) (t := 24) ?hr ?_; (case hd => rfl); (case hg => rfl); (case hr => first | (go_simp; done) | (go_simp; rfl)); intro G2 hg w8 hbox hb; have V3 := zg HB hg; have V4 := zg HB hg; have n0_ := Aside0.mk (hbox); replace HB := zb HB hb; have E0 := n0_; clear n0_; clear hb hbox hg) | ((with_reducible refine gate_dst (N := 3) rfl ?_); refine box_event ?hg (N := 3) ?hd (cs := #[.int .i64 a1_0, .int .i64 a1_1, .int .i64 a1_2, .int .i64 a1_3]) (t := 27) ?hr ?_; (case hd => rfl); (case hg => rfl); (case hr => first | (go_simp; done) | (go_simp; rfl)); intro G3 hg w9 hbox hb; have V5 := zg HB hg; have V6 := zg HB hg; have E9 := zn E0 hg; have G0 := zn' E0 hg; have n0_ := Aside0.mk (hbox); replace E0 := zk E0 hb; replace HB := zb HB hb; have E1 := n0_; clear n0_; clear hb hbox hg) | ((with_reducible refine gate_dst (N := 4) rfl ?_); refine box_event ?hg (N := 4) ?hd (cs := #[.int .i64 0, .int .i64 0, .slice none 0 0]) (t := 24) ?hr ?_; (case hd => rfl); (case hg => rfl); (case hr => first | (go_simp; done) | (go_simp; rfl)); intro E3 hg w10 hbox hb; have V7 := zg HB hg; have E4 := zg HB hg; have E5 := zn E0 hg; have E6 := zn' E0 hg; have E7 := zn E1 hg; have E8 := zn' E1 hg; have n0_ := Aside0.mk (hbox); replace E0 := zk E0 hb; replace E1 := zk E1 hb; replace HB := zb HB hb; have E2 := n0_; clear n0_; clear hb hbox hg; obtain ⟨Y1, Y2, Y3, Y4, Y5, Y6⟩ := zq3 E0) | ((with_reducible refine gate_callee (f := 11) rfl ?_); refine goesL_ (some 8) rfl rfl Try.func11 (by kernel_rfl) rfl #[.agg #[.int .i64 a0_0, .int .i64 a0_1, .slice A0_2 l0_2.length c0_2]] rfl (by (try simp only [List.map_toArray, List.map_cons, List.map_nil]); first | done | rfl | (simp only [List.length_drop, List.length_take]; rfl)) ?_; (with_reducible refine (raster_Check.calls k a0_0 a0_1 _ _ l0_2 t500 _ ?side1 ?side2 A3.out).mono ?_); (case side1 => repeat (first | exact (Kd.C_below G4.out HB.out) | (with_reducible refine Kd.C_alloc ?_ _) | (with_reducible refine Kd.C_drewN ?_ _) | (with_reducible refine Kd.C_drew ?_))); (case side2 => exact G5.out); rintro e w12 ⟨rfl, hb⟩; refine ⟨_, rfl, ?_⟩; replace E0 := zk E0 hb; replace E1 := zk E1 hb; replace E2 := zk E2 hb; replace HB := zb HB hb; (try clear hb); (try clear hb2); (try clear hk); (try clear hi); obtain ⟨Y7, Y8, Y9, Z0, Z1, Z2, Z3, Z4⟩ := zq4 E1) | ((with_reducible refine gate_callee (f := 24) rfl ?_); refine goesL_ (some 14) rfl rfl Try.func24 (by kernel_rfl) rfl #[.agg #[.int .i64 a1_0, .int .i64 a1_1, .int .i64 a1_2, .int .i64 a1_3]] rfl (by (try simp only [List.map_toArray, List.map_cons, List.map_nil]); first | done | rfl | (simp only [List.length_drop, List.length_take]; rfl)) ?_; (with_reducible refine (rect_Valid.calls a1_0 a1_1 a1_2 a1_3 true _ A5.out).mono ?_); rintro e w14 ⟨rfl, hb⟩; refine ⟨_, rfl, ?_⟩; replace E0 := zk E0 hb; replace E1 := zk E1 hb; replace E2 := zk E2 hb; replace HB := zb HB hb; (try clear hb); (try clear hb2); (try clear hk); (try clear hi)))
 (try simp only [Act.put, sA, sB, sC])
 go_cut [24] (fun v24 wc => ∃ (kq : Nat) (x24_6 : Bool), v24 = .bool x24_6 ∧ Aside0 (raster_Crop.j0 kq x24_6 a0_0 a0_1 l0_2 a1_0 a1_1 a1_2 a1_3 = some (r1, r2, r3, r4)) ∧ Aside0 (kq ≤ k) ∧ Aside0 (wc.heap[G2]? = some (.cells #[.int .i64 a0_0, .int .i64 a0_1, (.slice A0_2 l0_2.length c0_2)] 24 (0, 0))) ∧ Aside0 (wc.heap[G3]? = some (.cells #[.int .i64 a1_0, .int .i64 a1_1, .int .i64 a1_2, .int .i64 a1_3] 27 (0, 0))) ∧ Aside0 (wc.heap[E3]? = some (.cells #[.int .i64 0, .int .i64 0, (.slice none 0 0)] 24 (0, 0))) ∧ Aside0 (Below w.heap.size w wc))
 case first =>
  have H := HC7.out
  clear HC7
  by_cases c15 : a1_2 > 256
  ·rw [if_pos c15] at H
   have G1 : decide (256 < a1_2) = true := decide_eq_true c15
   clear c15
   (first | rw [G1] | (simp only [i64_w, i32_w]; rw [G1]) | skip)
   have H' := Aside0.mk H
   clear H
   obtain ⟨Z5, Z6, Z7, Z8, Z9, J0, J1, J2⟩ := zq4 E1
   go_wp2
   go_meet
   case rel => exact ⟨_, (true), (by first | rfl | (simp; done) | (simp [*]; done)), H', ⟨by first | omega | exact Nat.le_refl _⟩, ⟨by exact zk0 E0⟩, ⟨by exact zk0 E1⟩, ⟨by exact zk0 E2⟩, ⟨by exact zb0 HB⟩⟩
  rw [if_neg c15] at H
  have G1 : decide (256 < a1_2) = false := decide_eq_false c15
  clear c15
  (first | rw [G1] | (simp only [i64_w, i32_w]; rw [G1]) | skip)
  have H' := Aside0.mk H
  clear H
  obtain ⟨J3, J4, J5, J6, J7, J8, J9, L0⟩ := zq4 E1
  go_wp2
  go_meet
  case rel => exact ⟨_, (decide (a1_3 > 256)), (by first | rfl | (simp; done) | (simp [*]; done)), H', ⟨by first | omega | exact Nat.le_refl _⟩, ⟨by exact zk0 E0⟩, ⟨by exact zk0 E1⟩, ⟨by exact zk0 E2⟩, ⟨by exact zb0 HB⟩⟩
 case rest =>
  clear HC7
  try clear c1
  try clear c2
  try clear p2
  try clear q3
  try clear c4
  try clear V1
  try clear V2
  try clear q4
  try clear c6
  try clear c11
  try clear c15
  try clear G1
  try clear c16
  try clear Y1
  try clear Y2
  try clear Y3
  try clear Y7
  try clear Y8
  try clear Y9
  try clear Z0
  try clear Z5
  try clear Z6
  try clear Z7
  try clear Z8
  try clear J3
  try clear J4
  try clear J5
  try clear J6
  try clear Y4
  try clear Y5
  try clear Y6
  try clear Z1
  try clear Z2
  try clear Z3
  try clear Z4
  try clear Z9
  try clear J0
  try clear J1
  try clear J2
  try clear J7
  try clear J8
  try clear J9
  try clear L0
  obtain ⟨kq, x24_6, rfl, HA, HJ6, E0, E1, E2, HB⟩ := hcut
  cases kq with
  | zero => exact absurd HA.out (by simp [raster_Crop.j0])
  | succ kj6 =>
   have H := HA.out
   clear HA
   simp only [raster_Crop.j0] at H
   by_cases c18 : x24_6 = true
   ·subst c18
    rw [if_pos rfl] at H
    simp only [Option.some.injEq, Prod.mk.injEq] at H
    obtain ⟨rfl, rfl, rfl, rfl⟩ := H
    have E0z := E6.out
    have E0A := E5.out
    have E0B := E8.out
    have E0C := E7.out
    obtain ⟨E0D, E0E, E0F, E0G, E0H, E0I⟩ := zq3 E2
    go_wp2
    refine bodyPost_ret (results_ct rfl _ _ E3 24 #[.int .i64 0, .int .i64 0, .slice none 0 0] (0, 0) _ rfl (by exact zp E2 rfl) Try.underlying24 rfl (by kernel_rfl)) rfl ?_
    exact ⟨_, by first | rfl | (simp [errW_none, errW_some] <;> rfl) | (simp [*, errW_none, errW_some] <;> rfl), by first | exact Kd.R_nil _ _ _ _ _ | exact Kd.N_nil _ _ _ _ _ | exact Kd.V_nil _ _ _ _ _ | exact Kd.Q_nil _ _ _ _ _ | exact Kd.S_nil _ _ _ _ _, by exact zbo HB E4⟩
   replace c18 := Bool.eq_false_iff.mpr c18
   subst c18
   rw [if_neg (show ¬ (false = true) by decide)] at H
   replace H := Option.bind_eq_some_iff.mp H
   obtain ⟨t502, A220, H⟩ := H
   try dsimp only at H
   have A22 := Aside0.mk A220
   clear A220
   by_cases c23 : t502 = true
   ·subst c23
    rw [if_pos rfl] at H
    simp only [Option.some.injEq, Prod.mk.injEq] at H
    obtain ⟨rfl, rfl, rfl, rfl⟩ := H
    have E0J := G0.out
    have E0K := E9.out
    have E0L := E7.out
    have E0M := E8.out
    obtain ⟨E0N, E0O, E0P, E0Q, E0R, E0S, E0T, E0U⟩ := zq4 E1
    go_wp2_with (first | ((with_reducible refine gate_callee (f := 12) rfl ?_); refine goesL_ (some 27) rfl rfl Try.func12 (by kernel_rfl) rfl #[.agg #[.int .i64 a1_0, .int .i64 a1_1, .int .i64 a1_2, .int .i64 a1_3]] rfl (by (try simp only [List.map_toArray, List.map_cons, List.map_nil]); first | done | rfl | (simp only [List.length_drop, List.length_take]; rfl)) ?_; (with_reducible refine (rect_Empty.calls a1_0 a1_1 a1_2 a1_3 true _ A22.out).mono ?_); rintro e w27 ⟨rfl, hb⟩; refine ⟨_, rfl, ?_⟩; replace E0 := zk E0 hb; replace E1 := zk E1 hb; replace E2 := zk E2 hb; replace HB := zb HB hb; (try clear hb); have E0V := E6.out; have E0W := E5.out; obtain ⟨E0X, E0Y, E0Z, E1a, E1b, E1c⟩ := zq3 E2))
    refine bodyPost_ret (results_ct rfl _ _ E3 24 #[.int .i64 0, .int .i64 0, .slice none 0 0] (0, 0) _ rfl (by exact zp E2 rfl) Try.underlying24 rfl (by kernel_rfl)) rfl ?_
    exact ⟨_, by first | rfl | (simp [errW_none, errW_some] <;> rfl) | (simp [*, errW_none, errW_some] <;> rfl), by first | exact Kd.R_nil _ _ _ _ _ | exact Kd.N_nil _ _ _ _ _ | exact Kd.V_nil _ _ _ _ _ | exact Kd.Q_nil _ _ _ _ _ | exact Kd.S_nil _ _ _ _ _, by exact zbo HB E4⟩
   replace c23 := Bool.eq_false_iff.mpr c23
   subst c23
   rw [if_neg (show ¬ (false = true) by decide)] at H
   replace H := Option.bind_eq_some_iff.mp H
   obtain ⟨⟨t503, t504, t505⟩, A300, H⟩ := H
   try dsimp only at H
   have A30 := Aside0.mk A300
   clear A300
   simp only [Option.some.injEq, Prod.mk.injEq] at H
   obtain ⟨rfl, rfl, rfl, rfl⟩ := H
   have E1d := G0.out
   have E1e := E9.out
   have E1f := E7.out
   have E1g := E8.out
   obtain ⟨E1h, E1i, E1j, E1k, E1l, E1m, E1n, E1o⟩ := zq4 E1
   go_wp2_with (first | ((with_reducible refine gate_callee (f := 12) rfl ?_); refine goesL_ (some 27) rfl rfl Try.func12 (by kernel_rfl) rfl #[.agg #[.int .i64 a1_0, .int .i64 a1_1, .int .i64 a1_2, .int .i64 a1_3]] rfl (by (try simp only [List.map_toArray, List.map_cons, List.map_nil]); first | done | rfl | (simp only [List.length_drop, List.length_take]; rfl)) ?_; (with_reducible refine (rect_Empty.calls a1_0 a1_1 a1_2 a1_3 false _ A22.out).mono ?_); rintro e w34 ⟨rfl, hb⟩; refine ⟨_, rfl, ?_⟩; replace E0 := zk E0 hb; replace E1 := zk E1 hb; replace E2 := zk E2 hb; replace HB := zb HB hb; (try clear hb); obtain ⟨E1p, E1q, E1r, E1s, E1t, E1u, E1v, E1w⟩ := zq4 E1) | ((with_reducible refine gate_callee (f := 34) rfl ?_); refine goesL_ (some 34) rfl rfl Try.func34 (by kernel_rfl) rfl #[.int .i64 a1_2, .int .i64 a1_3, .func (.func 35) #[] #[.pointer (some ⟨G2, 0, none⟩), .pointer (some ⟨G3, 0, none⟩)]] rfl (by (try simp only [List.map_toArray, List.map_cons, List.map_nil]); first | done | rfl | (simp only [List.length_drop, List.length_take]; rfl)) ?_; (with_reducible refine (raster_fill__raster_Crop_1.calls kj6 a1_2 a1_3 G2 G3 a0_0 a0_1 A0_2 c0_2 l0_2 a1_0 a1_1 a1_2 a1_3 t503 t504 t505 _ ?side1 ?side2 ?side3 ?side4 A30.out).mono ?_); (case side1 => exact zk0 E0); (case side2 => exact zk0 E1); (case side3 => repeat (first | exact (Kd.C_below G4.out HB.out) | (with_reducible refine Kd.C_alloc ?_ _) | (with_reducible refine Kd.C_drewN ?_ _) | (with_reducible refine Kd.C_drew ?_))); (case side4 => exact G5.out); rintro e w36 ⟨v506, rfl, ho0, hb⟩; refine ⟨_, rfl, ?_⟩; have HO507 := zl HB ho0; replace E0 := zk E0 hb; replace E1 := zk E1 hb; replace E2 := zk E2 hb; replace HB := zb HB hb; (try clear hb); (try clear ho0); have E1x := E6.out; have E1y := E5.out; obtain ⟨E1z, E1A, E1B, E1C, E1D, E1E⟩ := zq3 E2; obtain ⟨Ao39, co39, eo39⟩ := Kd.R_slice HO507.out; subst eo39))
   refine bodyPost_ret (results_ct rfl _ _ E3 24 #[.int .i64 t503, .int .i64 t504, .slice Ao39 t505.length co39] (0, 0) _ rfl (by exact zp E2 rfl) Try.underlying24 rfl (by kernel_rfl)) rfl ?_
   exact ⟨_, by first | rfl | (simp [errW_none, errW_some] <;> rfl) | (simp [*, errW_none, errW_some] <;> rfl), by exact zro HO507 E2 (by decide), by exact zbo HB E4⟩
end Go.Proofs.Ytapdifpmijgkcaa.G
