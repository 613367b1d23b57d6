/- Contracts of functions of the program, each as it is called: what it computes (.f), that it computes no less with more rounds (.mono), and that a call returns just that (.calls). No conditions but those that each contract names. Written by a program of this session (wip/gx.py over the kit's print). -/
import Derived.Test.YtapdifpmijgkcaaG0
import Derived.Test.YtapdifpmijgkcaaG1
import Derived.Test.YtapdifpmijgkcaaG2
namespace Go.Proofs.Ytapdifpmijgkcaa.G
open Go.RowKit Go.Proofs.YtapdifpmijgkcaaW.PrintWords Go.Proofs.YtapdifpmijgkcaaW.PrintLast Go.Proofs.YtapdifpmijgkcaaW.PrintMore
attribute [local go_sem] max2_int min2_int max_two min_two max_three min_three max_four min_four   -- for this text's walks alone
set_option linter.unusedVariables false
set_option linter.unusedSimpArgs false


/-! ### affine_Apply: function 27 -/
def affine_Apply.f (k : Nat) (a0_0 : Int) (a0_1 : Int) (a0_2 : Int) (a0_3 : Int) (a0_4 : Int) (a0_5 : Int) (a1_0 : Int) (a1_1 : Int) : Option (Int × Int) := (affine_limited.f a0_0 a0_1 a0_2 a0_3 a0_4 a0_5).bind fun E6 => ((affine_position.f a1_0).bind fun t174 => ((affine_position.f a1_1).bind fun t175 => ((affine_dot.f k E6.1 E6.2.2.1 t174 t175).bind fun t176 => ((affine_position.f (wrap64 (t176 + E6.2.2.2.2.1))).bind fun t177 => ((affine_dot.f k E6.2.1 E6.2.2.2.1 t174 t175).bind fun t178 => ((affine_position.f (wrap64 (t178 + E6.2.2.2.2.2))).bind fun t179 => (some (t177, t179))))))))
theorem affine_Apply.mono : ∀ a0 a1 a2 a3 a4 a5 a6 a7 k, LeO (affine_Apply.f k a0 a1 a2 a3 a4 a5 a6 a7) (affine_Apply.f (k + 1) a0 a1 a2 a3 a4 a5 a6 a7) := by
 intro a0 a1 a2 a3 a4 a5 a6 a7 k
 unfold affine_Apply.f
 repeat' first
   | (with_reducible exact affine_dot.mono _ _ _ _ _)
   | (with_reducible exact LeO.refl _)
   | (with_reducible exact LeO.none _)
   | (with_reducible refine LeO.ite ?_ ?_)
   | (with_reducible refine LeO.bind ?_ (fun _ => ?_))
   | exact affine_dot.mono _ _ _ _ _
   | exact LeO.none _
   | refine LeO.ite ?_ ?_
   | refine LeO.bind ?_ (fun _ => ?_)
def affine_Apply.T2 : Bool × List (List Nat × List Nat) := (true, [([], []), ([0], [0]), ([1], [1]), ([], []), ([3], [3]), ([4, 2], [4]), ([2, 5, 0, 1, 2], [2]), ([5, 6, 0, 1, 2, 3, 4, 5, 6], [5])])
def affine_Apply.B2 : List Nat := [0, 1, 3, 0, 8, 31, 63, 127]
theorem affine_Apply.tab2 : rtab .any (opsOf Try.f27 2) = affine_Apply.T2 := by kernel_rfl
theorem affine_Apply.bits2 : waitsOk affine_Apply.T2.2 affine_Apply.B2 = true := by kernel_rfl
def affine_Apply.T3 : Bool × List (List Nat × List Nat) := (true, [([], []), ([0], [0]), ([], []), ([2], [2]), ([], []), ([], []), ([1, 3, 4, 5], [1, 3, 4, 5]), ([], []), ([7], [7]), ([6, 8], [6, 8]), ([9, 6], [9]), ([], []), ([11], [11]), ([], []), ([13], [13]), ([], []), ([], []), ([12, 14, 15, 16, 10], [12, 14, 15, 16]), ([], []), ([18], [18]), ([17, 19], [17, 19]), ([20, 17], [20]), ([10, 21], [10, 21]), ([22, 21, 0, 1, 2, 3, 4, 5, 6, 7, 8, 9, 10, 11, 12, 13, 14, 15, 16, 17, 18, 19, 20, 21, 22], [22])])
def affine_Apply.B3 : List Nat := [0, 1, 0, 4, 0, 0, 63, 0, 128, 511, 1023, 0, 2048, 0, 8192, 0, 0, 131071, 0, 262144, 1048575, 2097151, 4194303, 8388607]
theorem affine_Apply.tab3 : rtab .any (opsOf Try.f27 3) = affine_Apply.T3 := by kernel_rfl
theorem affine_Apply.bits3 : waitsOk affine_Apply.T3.2 affine_Apply.B3 = true := by kernel_rfl
set_option maxHeartbeats 8000000 in
set_option maxRecDepth 100000 in
theorem affine_Apply.calls (k : Nat) (a0_0 : Int) (a0_1 : Int) (a0_2 : Int) (a0_3 : Int) (a0_4 : Int) (a0_5 : Int) (a1_0 : Int) (a1_1 : Int) (r1 : Int) (r2 : Int) (w : World) (h : affine_Apply.f k a0_0 a0_1 a0_2 a0_3 a0_4 a0_5 a1_0 a1_1 = some (r1, r2)) :
  Calls Try.prog 27 #[.agg #[.int .i64 a0_0, .int .i64 a0_1, .int .i64 a0_2, .int .i64 a0_3, .int .i64 a0_4, .int .i64 a0_5], .agg #[.int .i64 a1_0, .int .i64 a1_1]] w fun e w' => e = .returned (.agg #[.int .i64 r1, .int .i64 r2]) ∧ Below w.heap.size w w' := by
 have hu32 := Try.underlying32
 have hu54 := Try.underlying54
 have HB := Aside0.mk (Below.refl w.heap.size w)
 have H : ((affine_limited.f a0_0 a0_1 a0_2 a0_3 a0_4 a0_5).bind fun E6 => ((affine_position.f a1_0).bind fun t174 => ((affine_position.f a1_1).bind fun t175 => ((affine_dot.f k E6.1 E6.2.2.1 t174 t175).bind fun t176 => ((affine_position.f (wrap64 (t176 + E6.2.2.2.2.1))).bind fun t177 => ((affine_dot.f k E6.2.1 E6.2.2.2.1 t174 t175).bind fun t178 => ((affine_position.f (wrap64 (t178 + E6.2.2.2.2.2))).bind fun t179 => (some (t177, t179))))))))) = some (r1, r2) := h
 clear h
 replace H := Option.bind_eq_some_iff.mp H
 obtain ⟨⟨t168, t169, t170, t171, t172, t173⟩, A30, H⟩ := H
 try dsimp only at H
 have A3 := Aside0.mk A30
 clear A30
 replace H := Option.bind_eq_some_iff.mp H
 obtain ⟨t174, A40, H⟩ := H
 try dsimp only at H
 have A4 := Aside0.mk A40
 clear A40
 replace H := Option.bind_eq_some_iff.mp H
 obtain ⟨t175, A50, H⟩ := H
 try dsimp only at H
 have A5 := Aside0.mk A50
 clear A50
 replace H := Option.bind_eq_some_iff.mp H
 obtain ⟨t176, A60, H⟩ := H
 try dsimp only at H
 have A6 := Aside0.mk A60
 clear A60
 replace H := Option.bind_eq_some_iff.mp H
 obtain ⟨t177, A70, H⟩ := H
 try dsimp only at H
 have A7 := Aside0.mk A70
 clear A70
 replace H := Option.bind_eq_some_iff.mp H
 obtain ⟨t178, A80, H⟩ := H
 try dsimp only at H
 have A8 := Aside0.mk A80
 clear A80
 replace H := Option.bind_eq_some_iff.mp H
 obtain ⟨t179, A90, H⟩ := H
 try dsimp only at H
 have A9 := Aside0.mk A90
 clear A90
 simp only [Option.some.injEq, Prod.mk.injEq] at H
 obtain ⟨rfl, rfl⟩ := H
 go_enter Try.func27, Try.ntmps27
 try go_wp2_with (first | ((with_reducible refine gate_dst (N := 2) rfl ?_); refine box_event ?hg (N := 2) ?hd (cs := #[.int .i64 a0_0, .int .i64 a0_1, .int .i64 a0_2, .int .i64 a0_3, .int .i64 a0_4, .int .i64 a0_5]) (t := 32) ?hr ?_; (case hd => rfl); (case hg => rfl); (case hr => first | (go_simp; done) | (go_simp; rfl)); intro E1 hg w10 hbox hb; have G5 := zg HB hg; have G2 := zg HB hg; have n0_ := Aside0.mk (hbox); replace HB := zb HB hb; have E0 := n0_; clear n0_; clear hb hbox hg) | ((with_reducible refine gate_dst (N := 3) rfl ?_); refine box_event ?hg (N := 3) ?hd (cs := #[.int .i64 a1_0, .int .i64 a1_1]) (t := 54) ?hr ?_; (case hd => rfl); (case hg => rfl); (case hr => first | (go_simp; done) | (go_simp; rfl)); intro E8 hg w11 hbox hb; have G6 := zg HB hg; have G7 := zg HB hg; have G3 := zn E0 hg; have E9 := zn' E0 hg; have n0_ := Aside0.mk (hbox); replace E0 := zk E0 hb; replace HB := zb HB hb; have E2 := n0_; clear n0_; clear hb hbox hg) | ((with_reducible refine gate_dst (N := 4) rfl ?_); refine box_event ?hg (N := 4) ?hd (cs := #[.int .i64 0, .int .i64 0]) (t := 54) ?hr ?_; (case hd => rfl); (case hg => rfl); (case hr => first | (go_simp; done) | (go_simp; rfl)); intro E4 hg w12 hbox hb; have G8 := zg HB hg; have G4 := zg HB hg; have E5 := zn E0 hg; have E7 := zn' E0 hg; have G0 := zn E2 hg; have G1 := zn' E2 hg; have n0_ := Aside0.mk (hbox); replace E0 := zk E0 hb; replace E2 := zk E2 hb; replace HB := zb HB hb; have E3 := n0_; clear n0_; clear hb hbox hg; have G9 := G3.out; have V0 := E9.out; have V1 := E5.out; have V2 := E7.out; obtain ⟨V3, V4, V5, V6, V7, V8, V9, Y0, Y1, Y2, Y3, Y4⟩ := zq6 E0) | ((with_reducible refine gate_callee (f := 49) rfl ?_); refine goesL_ (some 8) rfl rfl Try.func49 (by kernel_rfl) rfl #[.agg #[.int .i64 a0_0, .int .i64 a0_1, .int .i64 a0_2, .int .i64 a0_3, .int .i64 a0_4, .int .i64 a0_5]] rfl (by (try simp only [List.map_toArray, List.map_cons, List.map_nil]); first | done | rfl | (simp only [List.length_drop, List.length_take]; rfl)) ?_; (with_reducible refine (affine_limited.calls a0_0 a0_1 a0_2 a0_3 a0_4 a0_5 t168 t169 t170 t171 t172 t173 _ A3.out).mono ?_); rintro e w16 ⟨rfl, hb⟩; refine ⟨_, rfl, ?_⟩; replace E0 := zk E0 hb; replace E2 := zk E2 hb; replace E3 := zk E3 hb; replace HB := zb HB hb; (try clear hb); obtain ⟨Y5, Y6, Y7, Y8, Y9, Z0, Z1, Z2, Z3, Z4, Z5, Z6⟩ := zq6 E0))
 have n0_ : Aside0 (((((((w16.setCell ⟨E1, 0, none⟩ (.int .i64 t168)).setCell ⟨E1, 1, none⟩ (.int .i64 t169)).setCell ⟨E1, 2, none⟩ (.int .i64 t170)).setCell ⟨E1, 3, none⟩ (.int .i64 t171)).setCell ⟨E1, 4, none⟩ (.int .i64 t172)).setCell ⟨E1, 5, none⟩ (.int .i64 t173)).heap[E1]? = some (.cells #[.int .i64 t168, .int .i64 t169, .int .i64 t170, .int .i64 t171, .int .i64 t172, .int .i64 t173] 32 (0, 0))) := ⟨by exact zp E0 rfl⟩
 have n1_ : Aside0 (((((((w16.setCell ⟨E1, 0, none⟩ (.int .i64 t168)).setCell ⟨E1, 1, none⟩ (.int .i64 t169)).setCell ⟨E1, 2, none⟩ (.int .i64 t170)).setCell ⟨E1, 3, none⟩ (.int .i64 t171)).setCell ⟨E1, 4, none⟩ (.int .i64 t172)).setCell ⟨E1, 5, none⟩ (.int .i64 t173)).heap[E8]? = some (.cells #[.int .i64 a1_0, .int .i64 a1_1] 54 (0, 0))) := ⟨by exact zf E2 E9⟩
 have n2_ : Aside0 (((((((w16.setCell ⟨E1, 0, none⟩ (.int .i64 t168)).setCell ⟨E1, 1, none⟩ (.int .i64 t169)).setCell ⟨E1, 2, none⟩ (.int .i64 t170)).setCell ⟨E1, 3, none⟩ (.int .i64 t171)).setCell ⟨E1, 4, none⟩ (.int .i64 t172)).setCell ⟨E1, 5, none⟩ (.int .i64 t173)).heap[E4]? = some (.cells #[.int .i64 0, .int .i64 0] 54 (0, 0))) := ⟨by exact zf E3 E7⟩
 have n3_ : Aside0 (Below w.heap.size w ((((((w16.setCell ⟨E1, 0, none⟩ (.int .i64 t168)).setCell ⟨E1, 1, none⟩ (.int .i64 t169)).setCell ⟨E1, 2, none⟩ (.int .i64 t170)).setCell ⟨E1, 3, none⟩ (.int .i64 t171)).setCell ⟨E1, 4, none⟩ (.int .i64 t172)).setCell ⟨E1, 5, none⟩ (.int .i64 t173))) := ⟨by exact zbo HB G2⟩
 (try clear E0)
 (try clear E2)
 (try clear E3)
 (try clear HB)
 generalize ((((((w16.setCell ⟨E1, 0, none⟩ (.int .i64 t168)).setCell ⟨E1, 1, none⟩ (.int .i64 t169)).setCell ⟨E1, 2, none⟩ (.int .i64 t170)).setCell ⟨E1, 3, none⟩ (.int .i64 t171)).setCell ⟨E1, 4, none⟩ (.int .i64 t172)).setCell ⟨E1, 5, none⟩ (.int .i64 t173)) = w18 at n0_ n1_ n2_ n3_ ⊢
 have E0 := n0_
 have E2 := n1_
 have E3 := n2_
 have HB := n3_
 clear n0_ n1_ n2_ n3_
 replace E0 := zkd E0
 replace E2 := zkd E2
 replace E3 := zkd E3
 replace HB := zbd HB
 refine start_ (n := 8) (S := fun w' => w'.cell? ⟨E8, 0, none⟩ = some (.int .i64 a1_0) ∧ w'.cell? ⟨E8, 1, none⟩ = some (.int .i64 a1_1)) (ds := []) (bs 8 0) (by kernel_rfl) rfl rfl ⟨(blk_cell E2.out 0).trans rfl, (blk_cell E2.out 1).trans rfl⟩ (fun hHeld => ?_); refine with_tabW affine_Apply.tab2 affine_Apply.bits2 (fun HT_ HW_ => ?_)
 generalize w18.drew = w19 at E0 E2 E3 HB hHeld ⊢
 refine pure_ (i := 0) (N := some 9) (v := ?_) (a' := ?_) (bs 8 1) rfl rfl (any_of HT_.out (by kernel_rfl)) (fun _ _ _ h => h) (Or.inl ⟨by rfl, ?_⟩) ?_ ?_
 rotate_left
 ·intro w'
  go_simp
  with_reducible rfl
 rotate_left
 ·simp only [Act.put, sA, sB, sC, i64_w, i32_w]
  rfl
 refine pure_ (i := 3) (N := some 12) (v := ?_) (a' := ?_) (bs 8 9) rfl rfl (any_of HT_.out (by kernel_rfl)) (fun _ _ _ h => h) (Or.inl ⟨by rfl, ?_⟩) ?_ ?_
 rotate_left
 ·intro w'
  go_simp
  with_reducible rfl
 rotate_left
 ·simp only [Act.put, sA, sB, sC, i64_w, i32_w]
  rfl
 refine take_ (i := 1) (N := some 10) (v := ?_) (a' := ?_) (bs 8 11) rfl rfl (take_ofW HT_.out HW_.out (by kernel_rfl)) (fun _ _ _ h => h) (Or.inl ⟨by rfl, ?_⟩) hHeld ?_ ?_
 rotate_left
 ·rintro w' ⟨s0, s1⟩
  go_simp
  with_reducible rfl
 rotate_left
 ·simp only [Act.put, sA, sB, sC, i64_w, i32_w]
  rfl
 refine take_ (i := 4) (N := some 13) (v := ?_) (a' := ?_) (bs 8 27) rfl rfl (take_ofW HT_.out HW_.out (by kernel_rfl)) (fun _ _ _ h => h) (Or.inl ⟨by rfl, ?_⟩) hHeld ?_ ?_
 rotate_left
 ·rintro w' ⟨s0, s1⟩
  go_simp
  with_reducible rfl
 rotate_left
 ·simp only [Act.put, sA, sB, sC, i64_w, i32_w]
  rfl
 refine one_ (i := 2) (N := some 11) (bs 8 31) rfl rfl (one_of HT_.out (by kernel_rfl)) (by decide) (fun K hK => ?_)
 refine goes_ Try.func50 (by kernel_rfl) rfl #[.int .i64 a1_0] (by rfl) rfl rfl (by (try simp only [List.map_toArray, List.map_cons, List.map_nil]); first | done | rfl | (simp only [List.length_drop, List.length_take]; rfl)) ?_
 with_reducible refine (affine_position.calls a1_0 t174 _ A4.out).mono ?_
 rintro e w20 ⟨rfl, hb⟩
 refine ⟨_, rfl, ?_⟩
 replace E0 := zk E0 hb
 replace E2 := zk E2 hb
 replace E3 := zk E3 hb
 replace HB := zb HB hb
 (try clear hb)
 (try clear hb2)
 (try clear hk)
 (try clear hi)
 refine hK.out _ _ ⟨(blk_cell E2.out 0).trans rfl, (blk_cell E2.out 1).trans rfl⟩ (fun hHeld => ?_)
 clear hK K
 refine norm_ (a' := ?_) ?_ ?_
 rotate_left
 ·show Act.put _ (some 11) _ = _
  simp only [Act.put, sA, sB, sC, i64_w, i32_w]
  rfl
 refine one_ (i := 5) (N := some 14) (bs 8 63) rfl rfl (one_of HT_.out (by kernel_rfl)) (by decide) (fun K hK => ?_)
 refine goes_ Try.func50 (by kernel_rfl) rfl #[.int .i64 a1_1] (by rfl) rfl rfl (by (try simp only [List.map_toArray, List.map_cons, List.map_nil]); first | done | rfl | (simp only [List.length_drop, List.length_take]; rfl)) ?_
 with_reducible refine (affine_position.calls a1_1 t175 _ A5.out).mono ?_
 rintro e w21 ⟨rfl, hb⟩
 refine ⟨_, rfl, ?_⟩
 replace E0 := zk E0 hb
 replace E2 := zk E2 hb
 replace E3 := zk E3 hb
 replace HB := zb HB hb
 (try clear hb)
 (try clear hb2)
 (try clear hk)
 (try clear hi)
 refine hK.out _ _ ⟨(blk_cell E2.out 0).trans rfl, (blk_cell E2.out 1).trans rfl⟩ (fun hHeld => ?_)
 clear hK K
 refine norm_ (a' := ?_) ?_ ?_
 rotate_left
 ·show Act.put _ (some 14) _ = _
  simp only [Act.put, sA, sB, sC, i64_w, i32_w]
  rfl
 refine pure_ (i := 6) (N := some 5) (v := ?_) (a' := ?_) (bs 8 127) rfl rfl (any_of HT_.out (by kernel_rfl)) (fun _ _ _ h => h) (Or.inl ⟨by rfl, ?_⟩) ?_ ?_
 rotate_left
 ·intro w'
  go_simp
  with_reducible rfl
 rotate_left
 ·simp only [Act.put, sA, sB, sC, i64_w, i32_w]
  rfl
 refine pure_ (i := 7) (N := some 6) (v := ?_) (a' := ?_) (bs 8 255) rfl rfl (any_of HT_.out (by kernel_rfl)) (fun _ _ _ h => h) (Or.inl ⟨by rfl, ?_⟩) ?_ ?_
 rotate_left
 ·intro w'
  go_simp
  with_reducible rfl
 rotate_left
 ·simp only [Act.put, sA, sB, sC, i64_w, i32_w]
  rfl
 refine done_ (done_of HT_.out (by kernel_rfl)) ?_
 try go_wp2
 replace E0 := zkd E0
 replace E2 := zkd E2
 replace E3 := zkd E3
 replace HB := zbd HB
 refine start_ (n := 24) (S := fun w' => w'.cell? ⟨E1, 0, none⟩ = some (.int .i64 t168) ∧ w'.cell? ⟨E1, 1, none⟩ = some (.int .i64 t169) ∧ w'.cell? ⟨E1, 2, none⟩ = some (.int .i64 t170) ∧ w'.cell? ⟨E1, 3, none⟩ = some (.int .i64 t171) ∧ w'.cell? ⟨E1, 4, none⟩ = some (.int .i64 t172) ∧ w'.cell? ⟨E1, 5, none⟩ = some (.int .i64 t173)) (ds := []) (bs 24 0) (by kernel_rfl) rfl rfl ⟨(blk_cell E0.out 0).trans rfl, (blk_cell E0.out 1).trans rfl, (blk_cell E0.out 2).trans rfl, (blk_cell E0.out 3).trans rfl, (blk_cell E0.out 4).trans rfl, (blk_cell E0.out 5).trans rfl⟩ (fun hHeld => ?_); refine with_tabW affine_Apply.tab3 affine_Apply.bits3 (fun HT_ HW_ => ?_)
 generalize w21.drew = w22 at E0 E2 E3 HB hHeld ⊢
 refine pure_ (i := 0) (N := some 15) (v := ?_) (a' := ?_) (bs 24 1) rfl rfl (any_of HT_.out (by kernel_rfl)) (fun _ _ _ h => h) (Or.inl ⟨by rfl, ?_⟩) ?_ ?_
 rotate_left
 ·intro w'
  go_simp
  with_reducible rfl
 rotate_left
 ·simp only [Act.put, sA, sB, sC, i64_w, i32_w]
  rfl
 refine pure_ (i := 2) (N := some 17) (v := ?_) (a' := ?_) (bs 24 5) rfl rfl (any_of HT_.out (by kernel_rfl)) (fun _ _ _ h => h) (Or.inl ⟨by rfl, ?_⟩) ?_ ?_
 rotate_left
 ·intro w'
  go_simp
  with_reducible rfl
 rotate_left
 ·simp only [Act.put, sA, sB, sC, i64_w, i32_w]
  rfl
 refine pure_ (i := 4) (N := some 19) (v := ?_) (a' := ?_) (bs 24 21) rfl rfl (any_of HT_.out (by kernel_rfl)) (fun _ _ _ h => h) (Or.inl ⟨by rfl, ?_⟩) ?_ ?_
 rotate_left
 ·intro w'
  go_simp
  with_reducible rfl
 rotate_left
 ·simp only [Act.put, sA, sB, sC, i64_w, i32_w]
  rfl
 refine pure_ (i := 5) (N := some 20) (v := ?_) (a' := ?_) (bs 24 53) rfl rfl (any_of HT_.out (by kernel_rfl)) (fun _ _ _ h => h) (Or.inl ⟨by rfl, ?_⟩) ?_ ?_
 rotate_left
 ·intro w'
  go_simp
  with_reducible rfl
 rotate_left
 ·simp only [Act.put, sA, sB, sC, i64_w, i32_w]
  rfl
 refine pure_ (i := 7) (N := some 22) (v := ?_) (a' := ?_) (bs 24 181) rfl rfl (any_of HT_.out (by kernel_rfl)) (fun _ _ _ h => h) (Or.inl ⟨by rfl, ?_⟩) ?_ ?_
 rotate_left
 ·intro w'
  go_simp
  with_reducible rfl
 rotate_left
 ·simp only [Act.put, sA, sB, sC, i64_w, i32_w]
  rfl
 refine pure_ (i := 11) (N := some 26) (v := ?_) (a' := ?_) (bs 24 2229) rfl rfl (any_of HT_.out (by kernel_rfl)) (fun _ _ _ h => h) (Or.inl ⟨by rfl, ?_⟩) ?_ ?_
 rotate_left
 ·intro w'
  go_simp
  with_reducible rfl
 rotate_left
 ·simp only [Act.put, sA, sB, sC, i64_w, i32_w]
  rfl
 refine pure_ (i := 13) (N := some 28) (v := ?_) (a' := ?_) (bs 24 10421) rfl rfl (any_of HT_.out (by kernel_rfl)) (fun _ _ _ h => h) (Or.inl ⟨by rfl, ?_⟩) ?_ ?_
 rotate_left
 ·intro w'
  go_simp
  with_reducible rfl
 rotate_left
 ·simp only [Act.put, sA, sB, sC, i64_w, i32_w]
  rfl
 refine pure_ (i := 15) (N := some 30) (v := ?_) (a' := ?_) (bs 24 43189) rfl rfl (any_of HT_.out (by kernel_rfl)) (fun _ _ _ h => h) (Or.inl ⟨by rfl, ?_⟩) ?_ ?_
 rotate_left
 ·intro w'
  go_simp
  with_reducible rfl
 rotate_left
 ·simp only [Act.put, sA, sB, sC, i64_w, i32_w]
  rfl
 refine pure_ (i := 16) (N := some 31) (v := ?_) (a' := ?_) (bs 24 108725) rfl rfl (any_of HT_.out (by kernel_rfl)) (fun _ _ _ h => h) (Or.inl ⟨by rfl, ?_⟩) ?_ ?_
 rotate_left
 ·intro w'
  go_simp
  with_reducible rfl
 rotate_left
 ·simp only [Act.put, sA, sB, sC, i64_w, i32_w]
  rfl
 refine pure_ (i := 18) (N := some 33) (v := ?_) (a' := ?_) (bs 24 370869) rfl rfl (any_of HT_.out (by kernel_rfl)) (fun _ _ _ h => h) (Or.inl ⟨by rfl, ?_⟩) ?_ ?_
 rotate_left
 ·intro w'
  go_simp
  with_reducible rfl
 rotate_left
 ·simp only [Act.put, sA, sB, sC, i64_w, i32_w]
  rfl
 refine take_ (i := 1) (N := some 16) (v := ?_) (a' := ?_) (bs 24 370871) rfl rfl (take_ofW HT_.out HW_.out (by kernel_rfl)) (fun _ _ _ h => h) (Or.inl ⟨by rfl, ?_⟩) hHeld ?_ ?_
 rotate_left
 ·rintro w' ⟨s0, s1, s2, s3, s4, s5⟩
  go_simp
  with_reducible rfl
 rotate_left
 ·simp only [Act.put, sA, sB, sC, i64_w, i32_w]
  rfl
 refine take_ (i := 3) (N := some 18) (v := ?_) (a' := ?_) (bs 24 370879) rfl rfl (take_ofW HT_.out HW_.out (by kernel_rfl)) (fun _ _ _ h => h) (Or.inl ⟨by rfl, ?_⟩) hHeld ?_ ?_
 rotate_left
 ·rintro w' ⟨s0, s1, s2, s3, s4, s5⟩
  go_simp
  with_reducible rfl
 rotate_left
 ·simp only [Act.put, sA, sB, sC, i64_w, i32_w]
  rfl
 refine take_ (i := 8) (N := some 23) (v := ?_) (a' := ?_) (bs 24 371135) rfl rfl (take_ofW HT_.out HW_.out (by kernel_rfl)) (fun _ _ _ h => h) (Or.inl ⟨by rfl, ?_⟩) hHeld ?_ ?_
 rotate_left
 ·rintro w' ⟨s0, s1, s2, s3, s4, s5⟩
  go_simp
  with_reducible rfl
 rotate_left
 ·simp only [Act.put, sA, sB, sC, i64_w, i32_w]
  rfl
 refine take_ (i := 12) (N := some 27) (v := ?_) (a' := ?_) (bs 24 375231) rfl rfl (take_ofW HT_.out HW_.out (by kernel_rfl)) (fun _ _ _ h => h) (Or.inl ⟨by rfl, ?_⟩) hHeld ?_ ?_
 rotate_left
 ·rintro w' ⟨s0, s1, s2, s3, s4, s5⟩
  go_simp
  with_reducible rfl
 rotate_left
 ·simp only [Act.put, sA, sB, sC, i64_w, i32_w]
  rfl
 refine take_ (i := 14) (N := some 29) (v := ?_) (a' := ?_) (bs 24 391615) rfl rfl (take_ofW HT_.out HW_.out (by kernel_rfl)) (fun _ _ _ h => h) (Or.inl ⟨by rfl, ?_⟩) hHeld ?_ ?_
 rotate_left
 ·rintro w' ⟨s0, s1, s2, s3, s4, s5⟩
  go_simp
  with_reducible rfl
 rotate_left
 ·simp only [Act.put, sA, sB, sC, i64_w, i32_w]
  rfl
 refine take_ (i := 19) (N := some 34) (v := ?_) (a' := ?_) (bs 24 915903) rfl rfl (take_ofW HT_.out HW_.out (by kernel_rfl)) (fun _ _ _ h => h) (Or.inl ⟨by rfl, ?_⟩) hHeld ?_ ?_
 rotate_left
 ·rintro w' ⟨s0, s1, s2, s3, s4, s5⟩
  go_simp
  with_reducible rfl
 rotate_left
 ·simp only [Act.put, sA, sB, sC, i64_w, i32_w]
  rfl
 refine one_ (i := 6) (N := some 21) (bs 24 915967) rfl rfl (one_of HT_.out (by kernel_rfl)) (by decide) (fun K hK => ?_)
 refine goes_ Try.func48 (by kernel_rfl) rfl #[.int .i64 t168, .int .i64 t170, .int .i64 t174, .int .i64 t175] (by rfl) rfl rfl (by (try simp only [List.map_toArray, List.map_cons, List.map_nil]); first | done | rfl | (simp only [List.length_drop, List.length_take]; rfl)) ?_
 with_reducible refine (affine_dot.calls k t168 t170 t174 t175 t176 _ A6.out).mono ?_
 rintro e w' ⟨rfl, ⟨nd, rfl⟩⟩
 refine ⟨_, rfl, ?_⟩
 refine hK.out _ _ ⟨(blk_cell E0.out 0).trans rfl, (blk_cell E0.out 1).trans rfl, (blk_cell E0.out 2).trans rfl, (blk_cell E0.out 3).trans rfl, (blk_cell E0.out 4).trans rfl, (blk_cell E0.out 5).trans rfl⟩ (fun hHeld => ?_)
 clear hK K
 refine norm_ (a' := ?_) ?_ ?_
 rotate_left
 ·show Act.put _ (some 21) _ = _
  simp only [Act.put, sA, sB, sC, i64_w, i32_w]
  rfl
 refine pure_ (i := 9) (N := some 24) (v := ?_) (a' := ?_) (bs 24 916479) rfl rfl (any_of HT_.out (by kernel_rfl)) (fun _ _ _ h => h) (Or.inl ⟨by rfl, ?_⟩) ?_ ?_
 rotate_left
 ·intro w'
  go_simp
  with_reducible rfl
 rotate_left
 ·simp only [Act.put, sA, sB, sC, i64_w, i32_w]
  rfl
 refine one_ (i := 10) (N := some 25) (bs 24 917503) rfl rfl (one_of HT_.out (by kernel_rfl)) (by decide) (fun K hK => ?_)
 refine goes_ Try.func50 (by kernel_rfl) rfl #[.int .i64 (wrap64 (t176 + t172))] (by rfl) rfl rfl (by (try simp only [List.map_toArray, List.map_cons, List.map_nil]); first | done | rfl | (simp only [List.length_drop, List.length_take]; rfl)) ?_
 with_reducible refine (affine_position.calls (wrap64 (t176 + t172)) t177 _ A7.out).mono ?_
 rintro e w23 ⟨rfl, hb⟩
 refine ⟨_, rfl, ?_⟩
 replace E0 := zk E0 hb
 replace E2 := zk E2 hb
 replace E3 := zk E3 hb
 replace HB := zb HB hb
 (try clear hb)
 (try clear hb2)
 (try clear hk)
 (try clear hi)
 refine hK.out _ _ ⟨(blk_cell E0.out 0).trans rfl, (blk_cell E0.out 1).trans rfl, (blk_cell E0.out 2).trans rfl, (blk_cell E0.out 3).trans rfl, (blk_cell E0.out 4).trans rfl, (blk_cell E0.out 5).trans rfl⟩ (fun hHeld => ?_)
 clear hK K
 refine norm_ (a' := ?_) ?_ ?_
 rotate_left
 ·show Act.put _ (some 25) _ = _
  simp only [Act.put, sA, sB, sC, i64_w, i32_w]
  rfl
 refine one_ (i := 17) (N := some 32) (bs 24 1048575) rfl rfl (one_of HT_.out (by kernel_rfl)) (by decide) (fun K hK => ?_)
 refine goes_ Try.func48 (by kernel_rfl) rfl #[.int .i64 t169, .int .i64 t171, .int .i64 t174, .int .i64 t175] (by rfl) rfl rfl (by (try simp only [List.map_toArray, List.map_cons, List.map_nil]); first | done | rfl | (simp only [List.length_drop, List.length_take]; rfl)) ?_
 with_reducible refine (affine_dot.calls k t169 t171 t174 t175 t178 _ A8.out).mono ?_
 rintro e w' ⟨rfl, ⟨nd, rfl⟩⟩
 refine ⟨_, rfl, ?_⟩
 refine hK.out _ _ ⟨(blk_cell E0.out 0).trans rfl, (blk_cell E0.out 1).trans rfl, (blk_cell E0.out 2).trans rfl, (blk_cell E0.out 3).trans rfl, (blk_cell E0.out 4).trans rfl, (blk_cell E0.out 5).trans rfl⟩ (fun hHeld => ?_)
 clear hK K
 refine norm_ (a' := ?_) ?_ ?_
 rotate_left
 ·show Act.put _ (some 32) _ = _
  simp only [Act.put, sA, sB, sC, i64_w, i32_w]
  rfl
 refine pure_ (i := 20) (N := some 35) (v := ?_) (a' := ?_) (bs 24 2097151) rfl rfl (any_of HT_.out (by kernel_rfl)) (fun _ _ _ h => h) (Or.inl ⟨by rfl, ?_⟩) ?_ ?_
 rotate_left
 ·intro w'
  go_simp
  with_reducible rfl
 rotate_left
 ·simp only [Act.put, sA, sB, sC, i64_w, i32_w]
  rfl
 refine one_ (i := 21) (N := some 36) (bs 24 4194303) rfl rfl (one_of HT_.out (by kernel_rfl)) (by decide) (fun K hK => ?_)
 refine goes_ Try.func50 (by kernel_rfl) rfl #[.int .i64 (wrap64 (t178 + t173))] (by rfl) rfl rfl (by (try simp only [List.map_toArray, List.map_cons, List.map_nil]); first | done | rfl | (simp only [List.length_drop, List.length_take]; rfl)) ?_
 with_reducible refine (affine_position.calls (wrap64 (t178 + t173)) t179 _ A9.out).mono ?_
 rintro e w24 ⟨rfl, hb⟩
 refine ⟨_, rfl, ?_⟩
 replace E0 := zk E0 hb
 replace E2 := zk E2 hb
 replace E3 := zk E3 hb
 replace HB := zb HB hb
 (try clear hb)
 (try clear hb2)
 (try clear hk)
 (try clear hi)
 refine hK.out _ _ ⟨(blk_cell E0.out 0).trans rfl, (blk_cell E0.out 1).trans rfl, (blk_cell E0.out 2).trans rfl, (blk_cell E0.out 3).trans rfl, (blk_cell E0.out 4).trans rfl, (blk_cell E0.out 5).trans rfl⟩ (fun hHeld => ?_)
 clear hK K
 refine norm_ (a' := ?_) ?_ ?_
 rotate_left
 ·show Act.put _ (some 36) _ = _
  simp only [Act.put, sA, sB, sC, i64_w, i32_w]
  rfl
 refine pure_ (i := 22) (N := some 37) (v := ?_) (a' := ?_) (bs 24 8388607) rfl rfl (any_of HT_.out (by kernel_rfl)) (fun _ _ _ h => h) (Or.inl ⟨by rfl, ?_⟩) ?_ ?_
 rotate_left
 ·intro w'
  go_simp
  with_reducible rfl
 rotate_left
 ·simp only [Act.put, sA, sB, sC, i64_w, i32_w]
  rfl
 refine one_ (i := 23) (N := none) (bs 24 16777215) rfl rfl (one_of HT_.out (by kernel_rfl)) (by decide) (fun K hK => ?_)
 have hs25 : w24.cell? ⟨E4, 0, none⟩ = some (.int .i64 0) := (blk_cell E3.out 0).trans rfl
 have hfs25 := blk_frozen E3.out 0
 have Z7 := E5.out
 have Z8 := G0.out
 have Z9 := E7.out
 have J0 := G1.out
 have hs26 : w24.cell? ⟨E4, 1, none⟩ = some (.int .i64 0) := (blk_cell E3.out 1).trans rfl
 have hfs26 := blk_frozen E3.out 1
 have J1 := E5.out
 have J2 := G0.out
 have J3 := E7.out
 have J4 := G1.out
 refine skip_ (w1 := ?_) (by rfl) rfl ?_ ?_
 rotate_left
 ·go_simp
  rfl
 refine hK.out _ _ ⟨((cell_far (p := ⟨E4, _, none⟩) E5.out _).trans (((cell_far (p := ⟨E4, _, none⟩) E5.out _).trans (hHeld.1)))), ((cell_far (p := ⟨E4, _, none⟩) E5.out _).trans (((cell_far (p := ⟨E4, _, none⟩) E5.out _).trans (hHeld.2.1)))), ((cell_far (p := ⟨E4, _, none⟩) E5.out _).trans (((cell_far (p := ⟨E4, _, none⟩) E5.out _).trans (hHeld.2.2.1)))), ((cell_far (p := ⟨E4, _, none⟩) E5.out _).trans (((cell_far (p := ⟨E4, _, none⟩) E5.out _).trans (hHeld.2.2.2.1)))), ((cell_far (p := ⟨E4, _, none⟩) E5.out _).trans (((cell_far (p := ⟨E4, _, none⟩) E5.out _).trans (hHeld.2.2.2.2.1)))), ((cell_far (p := ⟨E4, _, none⟩) E5.out _).trans (((cell_far (p := ⟨E4, _, none⟩) E5.out _).trans (hHeld.2.2.2.2.2))))⟩ (fun hHeld => ?_)
 clear hK K
 refine done_ (done_of HT_.out (by kernel_rfl)) ?_
 try go_wp2
 refine bodyPost_ret (results_cell_row rfl _ _ E4 54 #[.int .i64 t177, .int .i64 t179] (0, 0) _ rfl (by exact zp E3 rfl) Try.underlying54 rfl (by kernel_rfl)) rfl ?_
 exact ⟨by first | rfl | (simp [errW_none, errW_some] <;> rfl) | (simp [*, errW_none, errW_some] <;> rfl), by exact zbo HB G4⟩

/-! ### sample_source_get: function 51 -/
def sample_source_get.j0 : Nat → Int → Int → Bool → Int → Int → List (S37) → Bool → Option (Int × Int × Int × Int)
 | 0, _, _, _, _, _, _, _ => none
 | k + 1, x1, x2, x14, E3, G3, G4, J8 => if x14 = true then (if (mn (mx x1 0) (wrap64 (E3 - 1))) < 0 then (some (0, 0, 0, 0)) else (if (mn (mx x1 0) (wrap64 (E3 - 1))) ≥ E3 then (some (0, 0, 0, 0)) else (if (mn (mx x2 0) (wrap64 (G3 - 1))) < 0 then (some (0, 0, 0, 0)) else (if (mn (mx x2 0) (wrap64 (G3 - 1))) ≥ G3 then (some (0, 0, 0, 0)) else (if 0 ≤ (wrap64 ((wrap64 ((mn (mx x2 0) (wrap64 (G3 - 1))) * E3)) + (mn (mx x1 0) (wrap64 (E3 - 1))))) then (if (wrap64 ((wrap64 ((mn (mx x2 0) (wrap64 (G3 - 1))) * E3)) + (mn (mx x1 0) (wrap64 (E3 - 1))))) < (G4.length : Int) then (some ((rd_T37 G4 (wrap64 ((wrap64 ((mn (mx x2 0) (wrap64 (G3 - 1))) * E3)) + (mn (mx x1 0) (wrap64 (E3 - 1)))))).f0, (rd_T37 G4 (wrap64 ((wrap64 ((mn (mx x2 0) (wrap64 (G3 - 1))) * E3)) + (mn (mx x1 0) (wrap64 (E3 - 1)))))).f1, (rd_T37 G4 (wrap64 ((wrap64 ((mn (mx x2 0) (wrap64 (G3 - 1))) * E3)) + (mn (mx x1 0) (wrap64 (E3 - 1)))))).f2, (rd_T37 G4 (wrap64 ((wrap64 ((mn (mx x2 0) (wrap64 (G3 - 1))) * E3)) + (mn (mx x1 0) (wrap64 (E3 - 1)))))).f3)) else (none)) else (none)))))) else (if x1 < 0 then (some (0, 0, 0, 0)) else (if x1 ≥ E3 then (some (0, 0, 0, 0)) else (if x2 < 0 then (some (0, 0, 0, 0)) else (if x2 ≥ G3 then (some (0, 0, 0, 0)) else (if 0 ≤ (wrap64 ((wrap64 (x2 * E3)) + x1)) then (if (wrap64 ((wrap64 (x2 * E3)) + x1)) < (G4.length : Int) then (some ((rd_T37 G4 (wrap64 ((wrap64 (x2 * E3)) + x1))).f0, (rd_T37 G4 (wrap64 ((wrap64 (x2 * E3)) + x1))).f1, (rd_T37 G4 (wrap64 ((wrap64 (x2 * E3)) + x1))).f2, (rd_T37 G4 (wrap64 ((wrap64 (x2 * E3)) + x1))).f3)) else (none)) else (none))))))
def sample_source_get.f (k : Nat) (a0_0 : Int) (a0_1 : Int) (l0_2 : List (S37)) (a0_3 : Bool) (a1 : Int) (a2 : Int) : Option (Int × Int × Int × Int) := if a0_3 = true then (sample_source_get.j0 k a1 a2 (decide (a0_0 > 0)) a0_0 a0_1 l0_2 a0_3) else (sample_source_get.j0 k a1 a2 false a0_0 a0_1 l0_2 a0_3)
theorem sample_source_get.mono_l : ∀ k, (∀ y0 y1 y2 y3 y4 y5 y6, LeO (sample_source_get.j0 k y0 y1 y2 y3 y4 y5 y6) (sample_source_get.j0 (k + 1) y0 y1 y2 y3 y4 y5 y6))
 | 0 => fun _ _ _ _ _ _ _ r h => by simp [sample_source_get.j0] at h
 | k + 1 => by
  have ih0 := sample_source_get.mono_l k
  ·intro y0 y1 y2 y3 y4 y5 y6
   unfold sample_source_get.j0
   repeat' first
   | (with_reducible exact ih0 _ _ _ _ _ _ _)
   | (with_reducible exact LeO.refl _)
   | (with_reducible exact LeO.none _)
   | (with_reducible refine LeO.ite ?_ ?_)
   | (with_reducible refine LeO.bind ?_ (fun _ => ?_))
   | exact ih0 _ _ _ _ _ _ _
   | exact LeO.none _
   | refine LeO.ite ?_ ?_
   | refine LeO.bind ?_ (fun _ => ?_)
theorem sample_source_get.mono : ∀ a0 a1 a2 a3 a4 a5 k, LeO (sample_source_get.f k a0 a1 a2 a3 a4 a5) (sample_source_get.f (k + 1) a0 a1 a2 a3 a4 a5) := by
 intro a0 a1 a2 a3 a4 a5 k
 have ih0 := sample_source_get.mono_l k
 unfold sample_source_get.f
 repeat' first
   | (with_reducible exact ih0 _ _ _ _ _ _ _)
   | (with_reducible exact LeO.refl _)
   | (with_reducible exact LeO.none _)
   | (with_reducible refine LeO.ite ?_ ?_)
   | (with_reducible refine LeO.bind ?_ (fun _ => ?_))
   | exact ih0 _ _ _ _ _ _ _
   | exact LeO.none _
   | refine LeO.ite ?_ ?_
   | refine LeO.bind ?_ (fun _ => ?_)
set_option maxHeartbeats 8000000 in
set_option maxRecDepth 100000 in
theorem sample_source_get.calls (k : Nat) (a0_0 : Int) (a0_1 : Int) (A0_2 : Option Addr) (c0_2 : Nat) (l0_2 : List (S37)) (a0_3 : Bool) (a1 : Int) (a2 : Int) (r1 : Int) (r2 : Int) (r3 : Int) (r4 : Int) (w : World) (hr0_2 : Kd.C k37 w A0_2 l0_2.length l0_2) (hc0_2 : l0_2.length ≤ c0_2) (h : sample_source_get.f k a0_0 a0_1 l0_2 a0_3 a1 a2 = some (r1, r2, r3, r4)) :
  Calls Try.prog 51 #[.agg #[.int .i64 a0_0, .int .i64 a0_1, .slice A0_2 l0_2.length c0_2, .bool a0_3], .int .i64 a1, .int .i64 a2] w fun e w' => e = .returned (.agg #[.int .i64 r1, .int .i64 r2, .int .i64 r3, .int .i64 r4]) ∧ Below w.heap.size w w' := by
 have hu60 := Try.underlying60
 have hu37 := Try.underlying37
 have Y0 := Aside0.mk hr0_2
 have J9 := Aside0.mk hc0_2
 clear hr0_2 hc0_2
 have HB := Aside0.mk (Below.refl w.heap.size w)
 have H : (if a0_3 = true then (sample_source_get.j0 k a1 a2 (decide (a0_0 > 0)) a0_0 a0_1 l0_2 a0_3) else (sample_source_get.j0 k a1 a2 false a0_0 a0_1 l0_2 a0_3)) = some (r1, r2, r3, r4) := h
 clear h
 have HC4 := Aside0.mk H
 clear H
 go_enter Try.func51, Try.ntmps51
 go_upto_region 1 with (first | ((with_reducible refine gate_dst (N := 3) rfl ?_); refine box_event ?hg (N := 3) ?hd (cs := #[.int .i64 a0_0, .int .i64 a0_1, .slice A0_2 l0_2.length c0_2, .bool a0_3]) (t := 60) ?hr ?_; (case hd => rfl); (case hg => rfl); (case hr => first | (go_simp; done) | (go_simp; rfl)); intro V1 hg w5 hbox hb; have Y1 := zg HB hg; have Y2 := zg HB hg; have n0_ := Aside0.mk (hbox); replace HB := zb HB hb; have E1 := n0_; clear n0_; clear hb hbox hg) | ((with_reducible refine gate_dst (N := 6) rfl ?_); refine box_event ?hg (N := 6) ?hd (cs := #[.int .i64 0, .int .i64 0, .int .i64 0, .int .i64 0]) (t := 37) ?hr ?_; (case hd => rfl); (case hg => rfl); (case hr => first | (go_simp; done) | (go_simp; rfl)); intro E7 hg w6 hbox hb; have Y3 := zg HB hg; have E8 := zg HB hg; have E9 := zn E1 hg; have G0 := zn' E1 hg; have n0_ := Aside0.mk (hbox); replace E1 := zk E1 hb; replace HB := zb HB hb; have E2 := n0_; clear n0_; clear hb hbox hg))
 repeat (go_quiet (first | ((with_reducible refine gate_dst (N := 3) rfl ?_); refine box_event ?hg (N := 3) ?hd (cs := #[.int .i64 a0_0, .int .i64 a0_1, .slice A0_2 l0_2.length c0_2, .bool a0_3]) (t := 60) ?hr ?_; (case hd => rfl); (case hg => rfl); (case hr => first | (go_simp; done) | (go_simp; rfl)); intro V1 hg w5 hbox hb; have Y1 := zg HB hg; have Y2 := zg HB hg; have n0_ := Aside0.mk (hbox); replace HB := zb HB hb; have E1 := n0_; clear n0_; clear hb hbox hg) | ((with_reducible refine gate_dst (N := 6) rfl ?_); refine box_event ?hg (N := 6) ?hd (cs := #[.int .i64 0, .int .i64 0, .int .i64 0, .int .i64 0]) (t := 37) ?hr ?_; (case hd => rfl); (case hg => rfl); (case hr => first | (go_simp; done) | (go_simp; rfl)); intro E7 hg w6 hbox hb; have Y3 := zg HB hg; have E8 := zg HB hg; have E9 := zn E1 hg; have G0 := zn' E1 hg; have n0_ := Aside0.mk (hbox); replace E1 := zk E1 hb; replace HB := zb HB hb; have E2 := n0_; clear n0_; clear hb hbox hg)); go_upto_region 1 with (first | ((with_reducible refine gate_dst (N := 3) rfl ?_); refine box_event ?hg (N := 3) ?hd (cs := #[.int .i64 a0_0, .int .i64 a0_1, .slice A0_2 l0_2.length c0_2, .bool a0_3]) (t := 60) ?hr ?_; (case hd => rfl); (case hg => rfl); (case hr => first | (go_simp; done) | (go_simp; rfl)); intro V1 hg w5 hbox hb; have Y1 := zg HB hg; have Y2 := zg HB hg; have n0_ := Aside0.mk (hbox); replace HB := zb HB hb; have E1 := n0_; clear n0_; clear hb hbox hg) | ((with_reducible refine gate_dst (N := 6) rfl ?_); refine box_event ?hg (N := 6) ?hd (cs := #[.int .i64 0, .int .i64 0, .int .i64 0, .int .i64 0]) (t := 37) ?hr ?_; (case hd => rfl); (case hg => rfl); (case hr => first | (go_simp; done) | (go_simp; rfl)); intro E7 hg w6 hbox hb; have Y3 := zg HB hg; have E8 := zg HB hg; have E9 := zn E1 hg; have G0 := zn' E1 hg; have n0_ := Aside0.mk (hbox); replace E1 := zk E1 hb; replace HB := zb HB hb; have E2 := n0_; clear n0_; clear hb hbox hg)))
 (try simp only [Act.put, sA, sB, sC])
 go_cut [14] (fun v14 wc => ∃ (kq : Nat) (x14_3 : Bool), v14 = .bool x14_3 ∧ Aside0 (sample_source_get.j0 kq a1 a2 x14_3 a0_0 a0_1 l0_2 a0_3 = some (r1, r2, r3, r4)) ∧ Aside0 (kq ≤ k) ∧ Aside0 (wc.heap[V1]? = some (.cells #[.int .i64 a0_0, .int .i64 a0_1, (.slice A0_2 l0_2.length c0_2), .bool a0_3] 60 (0, 0))) ∧ Aside0 (wc.heap[E7]? = some (.cells #[.int .i64 0, .int .i64 0, .int .i64 0, .int .i64 0] 37 (0, 0))) ∧ Aside0 (Below w.heap.size w wc))
 case first =>
  have H := HC4.out
  clear HC4
  by_cases c7 : a0_3 = true
  ·subst c7
   rw [if_pos rfl] at H
   have H' := Aside0.mk H
   clear H
   obtain ⟨Y4, Y5, Y6, Y7, Y8, Y9, Z0, Z1⟩ := zq4 E1
   go_wp2
   repeat (go_quiet (fail); try go_wp2)
   go_meet
   case rel => exact ⟨_, (decide (a0_0 > 0)), (by first | rfl | (simp; done) | (simp [*]; done)), H', ⟨by first | omega | exact Nat.le_refl _⟩, ⟨by exact zk0 E1⟩, ⟨by exact zk0 E2⟩, ⟨by exact zb0 HB⟩⟩
  replace c7 := Bool.eq_false_iff.mpr c7
  subst c7
  rw [if_neg (show ¬ (false = true) by decide)] at H
  have H' := Aside0.mk H
  clear H
  obtain ⟨Z2, Z3, Z4, Z5, Z6, Z7, Z8, Z9⟩ := zq4 E1
  go_wp2
  repeat (go_quiet (fail); try go_wp2)
  go_meet
  case rel => exact ⟨_, (false), (by first | rfl | (simp; done) | (simp [*]; done)), H', ⟨by first | omega | exact Nat.le_refl _⟩, ⟨by exact zk0 E1⟩, ⟨by exact zk0 E2⟩, ⟨by exact zb0 HB⟩⟩
 case rest =>
  clear HC4
  try clear p2
  try clear q4
  try clear c5
  try clear c7
  try clear Y4
  try clear Y5
  try clear Y6
  try clear Y7
  try clear Z2
  try clear Z3
  try clear Z4
  try clear Z5
  try clear Y8
  try clear Y9
  try clear Z0
  try clear Z1
  try clear Z6
  try clear Z7
  try clear Z8
  try clear Z9
  obtain ⟨kq, x14_3, rfl, HA, HJ3, E1, E2, HB⟩ := hcut
  cases kq with
  | zero => exact absurd HA.out (by simp [sample_source_get.j0])
  | succ kj3 =>
   have H := HA.out
   clear HA
   simp only [sample_source_get.j0] at H
   by_cases c10 : x14_3 = true
   ·subst c10
    rw [if_pos rfl] at H
    obtain ⟨G1, G5⟩ : ∃ j_ : Int, (mx a1 0) = j_ := ⟨_, rfl⟩
    replace H : (if (mn (G1) (wrap64 (a0_0 - 1))) < 0 then (some (0, 0, 0, 0)) else (if (mn (G1) (wrap64 (a0_0 - 1))) ≥ a0_0 then (some (0, 0, 0, 0)) else (if (mn (mx a2 0) (wrap64 (a0_1 - 1))) < 0 then (some (0, 0, 0, 0)) else (if (mn (mx a2 0) (wrap64 (a0_1 - 1))) ≥ a0_1 then (some (0, 0, 0, 0)) else (if 0 ≤ (wrap64 ((wrap64 ((mn (mx a2 0) (wrap64 (a0_1 - 1))) * a0_0)) + (mn (G1) (wrap64 (a0_0 - 1))))) then (if (wrap64 ((wrap64 ((mn (mx a2 0) (wrap64 (a0_1 - 1))) * a0_0)) + (mn (G1) (wrap64 (a0_0 - 1))))) < (l0_2.length : Int) then (some ((rd_T37 l0_2 (wrap64 ((wrap64 ((mn (mx a2 0) (wrap64 (a0_1 - 1))) * a0_0)) + (mn (G1) (wrap64 (a0_0 - 1)))))).f0, (rd_T37 l0_2 (wrap64 ((wrap64 ((mn (mx a2 0) (wrap64 (a0_1 - 1))) * a0_0)) + (mn (G1) (wrap64 (a0_0 - 1)))))).f1, (rd_T37 l0_2 (wrap64 ((wrap64 ((mn (mx a2 0) (wrap64 (a0_1 - 1))) * a0_0)) + (mn (G1) (wrap64 (a0_0 - 1)))))).f2, (rd_T37 l0_2 (wrap64 ((wrap64 ((mn (mx a2 0) (wrap64 (a0_1 - 1))) * a0_0)) + (mn (G1) (wrap64 (a0_0 - 1)))))).f3)) else (none)) else (none)))))) = some (r1, r2, r3, r4) := by first | (rw [G5] at H; exact H) | (simp only [G5] at H ⊢; exact H)
    have hji11_ : (if a1 < 0 then 0 else a1) = G1 := G5
    obtain ⟨E0, G6⟩ : ∃ j_ : Int, (mn (G1) (wrap64 (a0_0 - 1))) = j_ := ⟨_, rfl⟩
    replace H : (if (E0) < 0 then (some (0, 0, 0, 0)) else (if (E0) ≥ a0_0 then (some (0, 0, 0, 0)) else (if (mn (mx a2 0) (wrap64 (a0_1 - 1))) < 0 then (some (0, 0, 0, 0)) else (if (mn (mx a2 0) (wrap64 (a0_1 - 1))) ≥ a0_1 then (some (0, 0, 0, 0)) else (if 0 ≤ (wrap64 ((wrap64 ((mn (mx a2 0) (wrap64 (a0_1 - 1))) * a0_0)) + (E0))) then (if (wrap64 ((wrap64 ((mn (mx a2 0) (wrap64 (a0_1 - 1))) * a0_0)) + (E0))) < (l0_2.length : Int) then (some ((rd_T37 l0_2 (wrap64 ((wrap64 ((mn (mx a2 0) (wrap64 (a0_1 - 1))) * a0_0)) + (E0)))).f0, (rd_T37 l0_2 (wrap64 ((wrap64 ((mn (mx a2 0) (wrap64 (a0_1 - 1))) * a0_0)) + (E0)))).f1, (rd_T37 l0_2 (wrap64 ((wrap64 ((mn (mx a2 0) (wrap64 (a0_1 - 1))) * a0_0)) + (E0)))).f2, (rd_T37 l0_2 (wrap64 ((wrap64 ((mn (mx a2 0) (wrap64 (a0_1 - 1))) * a0_0)) + (E0)))).f3)) else (none)) else (none)))))) = some (r1, r2, r3, r4) := by first | (rw [G6] at H; exact H) | (simp only [G6] at H ⊢; exact H)
    have hji12_ : (if (wrap64 (a0_0 - 1)) < (G1) then (wrap64 (a0_0 - 1)) else (G1)) = E0 := G6
    obtain ⟨G2, G7⟩ : ∃ j_ : Int, (mx a2 0) = j_ := ⟨_, rfl⟩
    replace H : (if (E0) < 0 then (some (0, 0, 0, 0)) else (if (E0) ≥ a0_0 then (some (0, 0, 0, 0)) else (if (mn (G2) (wrap64 (a0_1 - 1))) < 0 then (some (0, 0, 0, 0)) else (if (mn (G2) (wrap64 (a0_1 - 1))) ≥ a0_1 then (some (0, 0, 0, 0)) else (if 0 ≤ (wrap64 ((wrap64 ((mn (G2) (wrap64 (a0_1 - 1))) * a0_0)) + (E0))) then (if (wrap64 ((wrap64 ((mn (G2) (wrap64 (a0_1 - 1))) * a0_0)) + (E0))) < (l0_2.length : Int) then (some ((rd_T37 l0_2 (wrap64 ((wrap64 ((mn (G2) (wrap64 (a0_1 - 1))) * a0_0)) + (E0)))).f0, (rd_T37 l0_2 (wrap64 ((wrap64 ((mn (G2) (wrap64 (a0_1 - 1))) * a0_0)) + (E0)))).f1, (rd_T37 l0_2 (wrap64 ((wrap64 ((mn (G2) (wrap64 (a0_1 - 1))) * a0_0)) + (E0)))).f2, (rd_T37 l0_2 (wrap64 ((wrap64 ((mn (G2) (wrap64 (a0_1 - 1))) * a0_0)) + (E0)))).f3)) else (none)) else (none)))))) = some (r1, r2, r3, r4) := by first | (rw [G7] at H; exact H) | (simp only [G7] at H ⊢; exact H)
    have hji13_ : (if a2 < 0 then 0 else a2) = G2 := G7
    obtain ⟨E6, G8⟩ : ∃ j_ : Int, (mn (G2) (wrap64 (a0_1 - 1))) = j_ := ⟨_, rfl⟩
    replace H : (if (E0) < 0 then (some (0, 0, 0, 0)) else (if (E0) ≥ a0_0 then (some (0, 0, 0, 0)) else (if (E6) < 0 then (some (0, 0, 0, 0)) else (if (E6) ≥ a0_1 then (some (0, 0, 0, 0)) else (if 0 ≤ (wrap64 ((wrap64 ((E6) * a0_0)) + (E0))) then (if (wrap64 ((wrap64 ((E6) * a0_0)) + (E0))) < (l0_2.length : Int) then (some ((rd_T37 l0_2 (wrap64 ((wrap64 ((E6) * a0_0)) + (E0)))).f0, (rd_T37 l0_2 (wrap64 ((wrap64 ((E6) * a0_0)) + (E0)))).f1, (rd_T37 l0_2 (wrap64 ((wrap64 ((E6) * a0_0)) + (E0)))).f2, (rd_T37 l0_2 (wrap64 ((wrap64 ((E6) * a0_0)) + (E0)))).f3)) else (none)) else (none)))))) = some (r1, r2, r3, r4) := by first | (rw [G8] at H; exact H) | (simp only [G8] at H ⊢; exact H)
    have hji14_ : (if (wrap64 (a0_1 - 1)) < (G2) then (wrap64 (a0_1 - 1)) else (G2)) = E6 := G8
    by_cases c15 : (E0) < 0
    ·rw [if_pos c15] at H
     have J0 : decide ((E0) < 0) = true := decide_eq_true c15
     clear c15
     simp only [Option.some.injEq, Prod.mk.injEq] at H
     obtain ⟨rfl, rfl, rfl, rfl⟩ := H
     have L0 := E9.out
     have L1 := G0.out
     obtain ⟨L2, L3, L4, L5, L6, L7, L8, L9⟩ := zq4 E1
     obtain ⟨Q0, Q1, Q2, Q3, Q4, Q5, Q6, Q7⟩ := zq4 E2
     go_wp2
     repeat (go_quiet (fail); try go_wp2)
     refine bodyPost_ret (results_cell_row rfl _ _ E7 37 #[.int .i64 0, .int .i64 0, .int .i64 0, .int .i64 0] (0, 0) _ rfl (by exact zp E2 rfl) Try.underlying37 rfl (by kernel_rfl)) rfl ?_
     exact ⟨by first | rfl | (simp [errW_none, errW_some] <;> rfl) | (simp only [← G5, ← G6, ← G7, ← G8]; first | rfl | (simp [errW_none, errW_some] <;> rfl)) | (simp [*, errW_none, errW_some] <;> rfl), by exact zbo HB E8⟩
    rw [if_neg c15] at H
    have J0 : decide ((E0) < 0) = false := decide_eq_false c15
    clear c15
    by_cases c19 : (E0) ≥ a0_0
    ·rw [if_pos c19] at H
     have J1 : decide (a0_0 ≤ (E0)) = true := decide_eq_true c19
     clear c19
     simp only [Option.some.injEq, Prod.mk.injEq] at H
     obtain ⟨rfl, rfl, rfl, rfl⟩ := H
     have Q8 := E9.out
     have Q9 := G0.out
     obtain ⟨E0a, E0b, E0c, E0d, E0e, E0f, E0g, E0h⟩ := zq4 E1
     obtain ⟨E0i, E0j, E0k, E0l, E0m, E0n, E0o, E0p⟩ := zq4 E2
     go_wp2
     repeat (go_quiet (fail); try go_wp2)
     refine bodyPost_ret (results_cell_row rfl _ _ E7 37 #[.int .i64 0, .int .i64 0, .int .i64 0, .int .i64 0] (0, 0) _ rfl (by exact zp E2 rfl) Try.underlying37 rfl (by kernel_rfl)) rfl ?_
     exact ⟨by first | rfl | (simp [errW_none, errW_some] <;> rfl) | (simp only [← G5, ← G6, ← G7, ← G8]; first | rfl | (simp [errW_none, errW_some] <;> rfl)) | (simp [*, errW_none, errW_some] <;> rfl), by exact zbo HB E8⟩
    rw [if_neg c19] at H
    have J1 : decide (a0_0 ≤ (E0)) = false := decide_eq_false c19
    clear c19
    by_cases c23 : (E6) < 0
    ·rw [if_pos c23] at H
     have J2 : decide ((E6) < 0) = true := decide_eq_true c23
     clear c23
     simp only [Option.some.injEq, Prod.mk.injEq] at H
     obtain ⟨rfl, rfl, rfl, rfl⟩ := H
     have E0q := E9.out
     have E0r := G0.out
     obtain ⟨E0s, E0t, E0u, E0v, E0w, E0x, E0y, E0z⟩ := zq4 E1
     obtain ⟨E0A, E0B, E0C, E0D, E0E, E0F, E0G, E0H⟩ := zq4 E2
     go_wp2
     repeat (go_quiet (fail); try go_wp2)
     refine bodyPost_ret (results_cell_row rfl _ _ E7 37 #[.int .i64 0, .int .i64 0, .int .i64 0, .int .i64 0] (0, 0) _ rfl (by exact zp E2 rfl) Try.underlying37 rfl (by kernel_rfl)) rfl ?_
     exact ⟨by first | rfl | (simp [errW_none, errW_some] <;> rfl) | (simp only [← G5, ← G6, ← G7, ← G8]; first | rfl | (simp [errW_none, errW_some] <;> rfl)) | (simp [*, errW_none, errW_some] <;> rfl), by exact zbo HB E8⟩
    rw [if_neg c23] at H
    have J2 : decide ((E6) < 0) = false := decide_eq_false c23
    clear c23
    by_cases c27 : (E6) ≥ a0_1
    ·rw [if_pos c27] at H
     have J3 : decide (a0_1 ≤ (E6)) = true := decide_eq_true c27
     clear c27
     simp only [Option.some.injEq, Prod.mk.injEq] at H
     obtain ⟨rfl, rfl, rfl, rfl⟩ := H
     have E0I := E9.out
     have E0J := G0.out
     obtain ⟨E0K, E0L, E0M, E0N, E0O, E0P, E0Q, E0R⟩ := zq4 E1
     obtain ⟨E0S, E0T, E0U, E0V, E0W, E0X, E0Y, E0Z⟩ := zq4 E2
     go_wp2
     repeat (go_quiet (fail); try go_wp2)
     refine bodyPost_ret (results_cell_row rfl _ _ E7 37 #[.int .i64 0, .int .i64 0, .int .i64 0, .int .i64 0] (0, 0) _ rfl (by exact zp E2 rfl) Try.underlying37 rfl (by kernel_rfl)) rfl ?_
     exact ⟨by first | rfl | (simp [errW_none, errW_some] <;> rfl) | (simp only [← G5, ← G6, ← G7, ← G8]; first | rfl | (simp [errW_none, errW_some] <;> rfl)) | (simp [*, errW_none, errW_some] <;> rfl), by exact zbo HB E8⟩
    rw [if_neg c27] at H
    have J3 : decide (a0_1 ≤ (E6)) = false := decide_eq_false c27
    clear c27
    obtain ⟨E4, G9⟩ : ∃ j_ : Int, (wrap64 ((wrap64 ((E6) * a0_0)) + (E0))) = j_ := ⟨_, rfl⟩
    replace H : (if 0 ≤ (E4) then (if (E4) < (l0_2.length : Int) then (some ((rd_T37 l0_2 (E4)).f0, (rd_T37 l0_2 (E4)).f1, (rd_T37 l0_2 (E4)).f2, (rd_T37 l0_2 (E4)).f3)) else (none)) else (none)) = some (r1, r2, r3, r4) := by first | (rw [G9] at H; exact H) | (simp only [G9] at H ⊢; exact H)
    have E1a : (IntKind.i64.wrap ((wrap64 ((E6) * a0_0)) + (E0))) = E4 := (i64_w _).trans G9
    by_cases c32 : 0 ≤ (E4)
    rotate_left
    ·rw [if_neg c32] at H
     exact absurd H (by simp)
    rw [if_pos c32] at H
    have E1b : decide (0 ≤ (E4)) = true := decide_eq_true c32
    clear c32
    by_cases c33 : (E4) < (l0_2.length : Int)
    rotate_left
    ·rw [if_neg c33] at H
     exact absurd H (by simp)
    rw [if_pos c33] at H
    have E1c : decide ((E4) < (l0_2.length : Int)) = true := decide_eq_true c33
    clear c33
    simp only [Option.some.injEq, Prod.mk.injEq] at H
    obtain ⟨rfl, rfl, rfl, rfl⟩ := H
    have E1d := E9.out
    have E1e := G0.out
    obtain ⟨E1f, E1g, E1h, E1i, E1j, E1k, E1l, E1m⟩ := zq4 E1
    have p182 : 0 ≤ ((E4) : Int) := of_decide_eq_true (by first | (with_reducible assumption) | assumption)
    have q182 : (E4) < (l0_2.length : Int) := of_decide_eq_true (by first | (with_reducible assumption) | assumption)
    obtain ⟨E1n, e182, V2, V3, V4, V5⟩ := at_T37 Y0.out (E4) p182 q182
    cases e182
    replace V2 := (HB.out.cell (World.block_lt_of_cell? w _ V2)).trans V2
    replace V3 := (HB.out.cell (World.block_lt_of_cell? w _ V3)).trans V3
    replace V4 := (HB.out.cell (World.block_lt_of_cell? w _ V4)).trans V4
    replace V5 := (HB.out.cell (World.block_lt_of_cell? w _ V5)).trans V5
    replace p182 := eq_true p182
    replace q182 := eq_true q182
    obtain ⟨E1o, E1p, E1q, E1r, E1s, E1t, E1u, E1v⟩ := zq4 E2
    go_wp2
    repeat (go_quiet (fail); try go_wp2)
    refine bodyPost_ret (results_cell_row rfl _ _ E7 37 #[.int .i64 ((rd_T37 l0_2 (E4)).f0), .int .i64 ((rd_T37 l0_2 (E4)).f1), .int .i64 ((rd_T37 l0_2 (E4)).f2), .int .i64 ((rd_T37 l0_2 (E4)).f3)] (0, 0) _ rfl (by exact zp E2 rfl) Try.underlying37 rfl (by kernel_rfl)) rfl ?_
    exact ⟨by first | rfl | (simp [errW_none, errW_some] <;> rfl) | (simp only [← G5, ← G6, ← G7, ← G8, ← G9]; first | rfl | (simp [errW_none, errW_some] <;> rfl)) | (simp [*, errW_none, errW_some] <;> rfl), by exact zbo HB E8⟩
   replace c10 := Bool.eq_false_iff.mpr c10
   subst c10
   rw [if_neg (show ¬ (false = true) by decide)] at H
   by_cases c37 : a1 < 0
   ·rw [if_pos c37] at H
    have J4 : decide (a1 < 0) = true := decide_eq_true c37
    clear c37
    simp only [Option.some.injEq, Prod.mk.injEq] at H
    obtain ⟨rfl, rfl, rfl, rfl⟩ := H
    have E1w := G0.out
    have E1x := E9.out
    obtain ⟨E1y, E1z, E1A, E1B, E1C, E1D, E1E, E1F⟩ := zq4 E2
    go_wp2
    repeat (go_quiet (fail); try go_wp2)
    refine bodyPost_ret (results_cell_row rfl _ _ E7 37 #[.int .i64 0, .int .i64 0, .int .i64 0, .int .i64 0] (0, 0) _ rfl (by exact zp E2 rfl) Try.underlying37 rfl (by kernel_rfl)) rfl ?_
    exact ⟨by first | rfl | (simp [errW_none, errW_some] <;> rfl) | (simp [*, errW_none, errW_some] <;> rfl), by exact zbo HB E8⟩
   rw [if_neg c37] at H
   have J4 : decide (a1 < 0) = false := decide_eq_false c37
   clear c37
   by_cases c40 : a1 ≥ a0_0
   ·rw [if_pos c40] at H
    have J5 : decide (a0_0 ≤ a1) = true := decide_eq_true c40
    clear c40
    simp only [Option.some.injEq, Prod.mk.injEq] at H
    obtain ⟨rfl, rfl, rfl, rfl⟩ := H
    have E1G := E9.out
    have E1H := G0.out
    obtain ⟨E1I, E1J, E1K, E1L, E1M, E1N, E1O, E1P⟩ := zq4 E1
    obtain ⟨E1Q, E1R, E1S, E1T, E1U, E1V, E1W, E1X⟩ := zq4 E2
    go_wp2
    repeat (go_quiet (fail); try go_wp2)
    refine bodyPost_ret (results_cell_row rfl _ _ E7 37 #[.int .i64 0, .int .i64 0, .int .i64 0, .int .i64 0] (0, 0) _ rfl (by exact zp E2 rfl) Try.underlying37 rfl (by kernel_rfl)) rfl ?_
    exact ⟨by first | rfl | (simp [errW_none, errW_some] <;> rfl) | (simp [*, errW_none, errW_some] <;> rfl), by exact zbo HB E8⟩
   rw [if_neg c40] at H
   have J5 : decide (a0_0 ≤ a1) = false := decide_eq_false c40
   clear c40
   by_cases c44 : a2 < 0
   ·rw [if_pos c44] at H
    have J6 : decide (a2 < 0) = true := decide_eq_true c44
    clear c44
    simp only [Option.some.injEq, Prod.mk.injEq] at H
    obtain ⟨rfl, rfl, rfl, rfl⟩ := H
    have E1Y := E9.out
    have E1Z := G0.out
    obtain ⟨E2a, E2b, E2c, E2d, E2e, E2f, E2g, E2h⟩ := zq4 E1
    obtain ⟨E2i, E2j, E2k, E2l, E2m, E2n, E2o, E2p⟩ := zq4 E2
    go_wp2
    repeat (go_quiet (fail); try go_wp2)
    refine bodyPost_ret (results_cell_row rfl _ _ E7 37 #[.int .i64 0, .int .i64 0, .int .i64 0, .int .i64 0] (0, 0) _ rfl (by exact zp E2 rfl) Try.underlying37 rfl (by kernel_rfl)) rfl ?_
    exact ⟨by first | rfl | (simp [errW_none, errW_some] <;> rfl) | (simp [*, errW_none, errW_some] <;> rfl), by exact zbo HB E8⟩
   rw [if_neg c44] at H
   have J6 : decide (a2 < 0) = false := decide_eq_false c44
   clear c44
   by_cases c48 : a2 ≥ a0_1
   ·rw [if_pos c48] at H
    have J7 : decide (a0_1 ≤ a2) = true := decide_eq_true c48
    clear c48
    simp only [Option.some.injEq, Prod.mk.injEq] at H
    obtain ⟨rfl, rfl, rfl, rfl⟩ := H
    have E2q := E9.out
    have E2r := G0.out
    obtain ⟨E2s, E2t, E2u, E2v, E2w, E2x, E2y, E2z⟩ := zq4 E1
    obtain ⟨E2A, E2B, E2C, E2D, E2E, E2F, E2G, E2H⟩ := zq4 E2
    go_wp2
    repeat (go_quiet (fail); try go_wp2)
    refine bodyPost_ret (results_cell_row rfl _ _ E7 37 #[.int .i64 0, .int .i64 0, .int .i64 0, .int .i64 0] (0, 0) _ rfl (by exact zp E2 rfl) Try.underlying37 rfl (by kernel_rfl)) rfl ?_
    exact ⟨by first | rfl | (simp [errW_none, errW_some] <;> rfl) | (simp [*, errW_none, errW_some] <;> rfl), by exact zbo HB E8⟩
   rw [if_neg c48] at H
   have J7 : decide (a0_1 ≤ a2) = false := decide_eq_false c48
   clear c48
   obtain ⟨E5, V0⟩ : ∃ j_ : Int, (wrap64 ((wrap64 (a2 * a0_0)) + a1)) = j_ := ⟨_, rfl⟩
   replace H : (if 0 ≤ (E5) then (if (E5) < (l0_2.length : Int) then (some ((rd_T37 l0_2 (E5)).f0, (rd_T37 l0_2 (E5)).f1, (rd_T37 l0_2 (E5)).f2, (rd_T37 l0_2 (E5)).f3)) else (none)) else (none)) = some (r1, r2, r3, r4) := by first | (rw [V0] at H; exact H) | (simp only [V0] at H ⊢; exact H)
   have E2I : (IntKind.i64.wrap ((wrap64 (a2 * a0_0)) + a1)) = E5 := (i64_w _).trans V0
   by_cases c53 : 0 ≤ (E5)
   rotate_left
   ·rw [if_neg c53] at H
    exact absurd H (by simp)

   rw [if_pos c53] at H
   have E2J : decide (0 ≤ (E5)) = true := decide_eq_true c53
   clear c53
   by_cases c54 : (E5) < (l0_2.length : Int)
   rotate_left
   ·rw [if_neg c54] at H
    exact absurd H (by simp)
   rw [if_pos c54] at H
   have E2K : decide ((E5) < (l0_2.length : Int)) = true := decide_eq_true c54
   clear c54
   simp only [Option.some.injEq, Prod.mk.injEq] at H
   obtain ⟨rfl, rfl, rfl, rfl⟩ := H
   have E2L := E9.out
   have E2M := G0.out
   obtain ⟨E2N, E2O, E2P, E2Q, E2R, E2S, E2T, E2U⟩ := zq4 E1
   have p183 : 0 ≤ ((E5) : Int) := of_decide_eq_true (by first | (with_reducible assumption) | assumption)
   have q183 : (E5) < (l0_2.length : Int) := of_decide_eq_true (by first | (with_reducible assumption) | assumption)
   obtain ⟨E2V, e183, V6, V7, V8, V9⟩ := at_T37 Y0.out (E5) p183 q183
   cases e183
   replace V6 := (HB.out.cell (World.block_lt_of_cell? w _ V6)).trans V6
   replace V7 := (HB.out.cell (World.block_lt_of_cell? w _ V7)).trans V7
   replace V8 := (HB.out.cell (World.block_lt_of_cell? w _ V8)).trans V8
   replace V9 := (HB.out.cell (World.block_lt_of_cell? w _ V9)).trans V9
   replace p183 := eq_true p183
   replace q183 := eq_true q183
   obtain ⟨E2W, E2X, E2Y, E2Z, E3a, E3b, E3c, E3d⟩ := zq4 E2
   go_wp2
   repeat (go_quiet (fail); try go_wp2)
   refine bodyPost_ret (results_cell_row rfl _ _ E7 37 #[.int .i64 ((rd_T37 l0_2 (E5)).f0), .int .i64 ((rd_T37 l0_2 (E5)).f1), .int .i64 ((rd_T37 l0_2 (E5)).f2), .int .i64 ((rd_T37 l0_2 (E5)).f3)] (0, 0) _ rfl (by exact zp E2 rfl) Try.underlying37 rfl (by kernel_rfl)) rfl ?_
   exact ⟨by first | rfl | (simp [errW_none, errW_some] <;> rfl) | (simp only [← V0]; first | rfl | (simp [errW_none, errW_some] <;> rfl)) | (simp [*, errW_none, errW_some] <;> rfl), by exact zbo HB E8⟩
/-! ### kernel_Support: function 44 -/
def kernel_Support.f (a0 : Int) : Option (Int) := (kernel_Valid.f a0).bind fun t184 => (if t184 = true then (if a0 = 2 then (some 2) else (if a0 = 4 then (some 2) else (some 1))) else (some 0))
set_option maxHeartbeats 8000000 in
set_option maxRecDepth 100000 in
theorem kernel_Support.calls (a0 : Int) (r : Int) (w : World) (h : kernel_Support.f a0 = some r) :
  Calls Try.prog 44 #[.int .i64 a0] w fun e w' => e = .returned (.int .i64 r) ∧ Drawn0 w w' := by
 have H : ((kernel_Valid.f a0).bind fun t184 => (if t184 = true then (if a0 = 2 then (some 2) else (if a0 = 4 then (some 2) else (some 1))) else (some 0))) = some r := h
 clear h
 replace H := Option.bind_eq_some_iff.mp H
 obtain ⟨t184, A20, H⟩ := H
 try dsimp only at H
 have A2 := Aside0.mk A20
 clear A20
 by_cases c3 : t184 = true
 rotate_left
 ·replace c3 := Bool.eq_false_iff.mpr c3
  subst c3
  rw [if_neg (show ¬ (false = true) by decide)] at H
  obtain rfl := Option.some.inj H
  go_enter Try.func44, Try.ntmps44
  go_wp2_with (first | ((with_reducible refine gate_callee (f := 25) rfl ?_); refine goesL_ (some 5) rfl rfl Try.func25 (by kernel_rfl) rfl #[.int .i64 a0] rfl (by (try simp only [List.map_toArray, List.map_cons, List.map_nil]); first | done | rfl | (simp only [List.length_drop, List.length_take]; rfl)) ?_; (with_reducible refine (kernel_Valid.calls a0 false _ A2.out).mono ?_); rintro e w' ⟨rfl, ⟨nd, rfl⟩⟩; refine ⟨_, rfl, ?_⟩))
  go_ret
  exact ⟨by first | rfl | (simp; done) | (simp [*]; done), by repeat (first | exact Drawn0.refl _ | apply Drawn0.step)⟩

 subst c3
 rw [if_pos rfl] at H
 by_cases c4 : a0 = 2
 ·rw [if_pos c4] at H
  have E0 : (a0 == 2) = true := beq_iff_eq.mpr c4
  have E1 : (a0 != 2) = false := bne_eq_false_iff_eq.mpr c4
  clear c4
  obtain rfl := Option.some.inj H
  go_enter Try.func44, Try.ntmps44
  go_wp2_with (first | ((with_reducible refine gate_callee (f := 25) rfl ?_); refine goesL_ (some 5) rfl rfl Try.func25 (by kernel_rfl) rfl #[.int .i64 a0] rfl (by (try simp only [List.map_toArray, List.map_cons, List.map_nil]); first | done | rfl | (simp only [List.length_drop, List.length_take]; rfl)) ?_; (with_reducible refine (kernel_Valid.calls a0 true _ A2.out).mono ?_); rintro e w' ⟨rfl, ⟨nd, rfl⟩⟩; refine ⟨_, rfl, ?_⟩))
  go_ret
  exact ⟨by first | rfl | (simp; done) | (simp [*]; done), by repeat (first | exact Drawn0.refl _ | apply Drawn0.step)⟩
 rw [if_neg c4] at H
 have E0 : (a0 == 2) = false := beq_eq_false_iff_ne.mpr c4
 have E1 : (a0 != 2) = true := bne_iff_ne.mpr c4
 by_cases c5 : a0 = 4
 ·rw [if_pos c5] at H
  have E2 : (a0 == 4) = true := beq_iff_eq.mpr c5
  have E3 : (a0 != 4) = false := bne_eq_false_iff_eq.mpr c5
  clear c5
  obtain rfl := Option.some.inj H
  go_enter Try.func44, Try.ntmps44
  go_wp2_with (first | ((with_reducible refine gate_callee (f := 25) rfl ?_); refine goesL_ (some 5) rfl rfl Try.func25 (by kernel_rfl) rfl #[.int .i64 a0] rfl (by (try simp only [List.map_toArray, List.map_cons, List.map_nil]); first | done | rfl | (simp only [List.length_drop, List.length_take]; rfl)) ?_; (with_reducible refine (kernel_Valid.calls a0 true _ A2.out).mono ?_); rintro e w' ⟨rfl, ⟨nd, rfl⟩⟩; refine ⟨_, rfl, ?_⟩))
  go_ret
  exact ⟨by first | rfl | (simp; done) | (simp [*]; done), by repeat (first | exact Drawn0.refl _ | apply Drawn0.step)⟩
 rw [if_neg c5] at H
 have E2 : (a0 == 4) = false := beq_eq_false_iff_ne.mpr c5
 have E3 : (a0 != 4) = true := bne_iff_ne.mpr c5
 obtain rfl := Option.some.inj H
 go_enter Try.func44, Try.ntmps44
 go_wp2_with (first | ((with_reducible refine gate_callee (f := 25) rfl ?_); refine goesL_ (some 5) rfl rfl Try.func25 (by kernel_rfl) rfl #[.int .i64 a0] rfl (by (try simp only [List.map_toArray, List.map_cons, List.map_nil]); first | done | rfl | (simp only [List.length_drop, List.length_take]; rfl)) ?_; (with_reducible refine (kernel_Valid.calls a0 true _ A2.out).mono ?_); rintro e w' ⟨rfl, ⟨nd, rfl⟩⟩; refine ⟨_, rfl, ?_⟩))
 go_ret
 exact ⟨by first | rfl | (simp; done) | (simp [*]; done), by repeat (first | exact Drawn0.refl _ | apply Drawn0.step)⟩
/-! ### kernel_cubic: function 80 -/
def kernel_cubic.f (k : Nat) (a0 : Int) (a1 : Int) (a2 : Int) (a3 : Int) (a4 : Int) (a5 : Int) : Option (Int) := (num_Div.f k (wrap64 ((wrap64 ((wrap64 ((wrap64 ((wrap64 ((wrap64 (a1 * a0)) + (wrap64 (a2 * 65536)))) * a0)) + (wrap64 ((wrap64 (a3 * 65536)) * 65536)))) * a0)) + (wrap64 ((wrap64 ((wrap64 (a4 * 65536)) * 65536)) * 65536)))) (wrap64 ((wrap64 (a5 * 65536)) * 65536))).bind fun t185 => (some t185)
theorem kernel_cubic.mono : ∀ a0 a1 a2 a3 a4 a5 k, LeO (kernel_cubic.f k a0 a1 a2 a3 a4 a5) (kernel_cubic.f (k + 1) a0 a1 a2 a3 a4 a5) := by
 intro a0 a1 a2 a3 a4 a5 k
 unfold kernel_cubic.f
 repeat' first
   | (with_reducible exact num_Div.mono _ _ _)
   | (with_reducible exact LeO.refl _)
   | (with_reducible exact LeO.none _)
   | (with_reducible refine LeO.ite ?_ ?_)
   | (with_reducible refine LeO.bind ?_ (fun _ => ?_))
   | exact num_Div.mono _ _ _
   | exact LeO.none _
   | refine LeO.ite ?_ ?_
   | refine LeO.bind ?_ (fun _ => ?_)
set_option maxHeartbeats 8000000 in
set_option maxRecDepth 100000 in
theorem kernel_cubic.calls (k : Nat) (a0 : Int) (a1 : Int) (a2 : Int) (a3 : Int) (a4 : Int) (a5 : Int) (r : Int) (w : World) (h : kernel_cubic.f k a0 a1 a2 a3 a4 a5 = some r) :
  Calls Try.prog 80 #[.int .i64 a0, .int .i64 a1, .int .i64 a2, .int .i64 a3, .int .i64 a4, .int .i64 a5] w fun e w' => e = .returned (.int .i64 r) ∧ Drawn0 w w' := by
 have H : ((num_Div.f k (wrap64 ((wrap64 ((wrap64 ((wrap64 ((wrap64 ((wrap64 (a1 * a0)) + (wrap64 (a2 * 65536)))) * a0)) + (wrap64 ((wrap64 (a3 * 65536)) * 65536)))) * a0)) + (wrap64 ((wrap64 ((wrap64 (a4 * 65536)) * 65536)) * 65536)))) (wrap64 ((wrap64 (a5 * 65536)) * 65536))).bind fun t185 => (some t185)) = some r := h
 clear h
 replace H := Option.bind_eq_some_iff.mp H
 obtain ⟨t185, A70, H⟩ := H
 try dsimp only at H
 have A7 := Aside0.mk A70
 clear A70
 obtain rfl := Option.some.inj H
 go_enter Try.func80, Try.ntmps80
 go_wp2_with (first | ((with_reducible refine gate_callee (f := 39) rfl ?_); refine goesL_ (some 35) rfl rfl Try.func39 (by kernel_rfl) rfl #[.int .i64 (wrap64 ((wrap64 ((wrap64 ((wrap64 ((wrap64 ((wrap64 (a1 * a0)) + (wrap64 (a2 * 65536)))) * a0)) + (wrap64 ((wrap64 (a3 * 65536)) * 65536)))) * a0)) + (wrap64 ((wrap64 ((wrap64 (a4 * 65536)) * 65536)) * 65536)))), .int .i64 (wrap64 ((wrap64 (a5 * 65536)) * 65536))] rfl (by (try simp only [List.map_toArray, List.map_cons, List.map_nil]); first | done | rfl | (simp only [List.length_drop, List.length_take]; rfl)) ?_; (with_reducible refine (num_Div.calls k (wrap64 ((wrap64 ((wrap64 ((wrap64 ((wrap64 ((wrap64 (a1 * a0)) + (wrap64 (a2 * 65536)))) * a0)) + (wrap64 ((wrap64 (a3 * 65536)) * 65536)))) * a0)) + (wrap64 ((wrap64 ((wrap64 (a4 * 65536)) * 65536)) * 65536)))) (wrap64 ((wrap64 (a5 * 65536)) * 65536)) t185 _ A7.out).mono ?_); rintro e w' ⟨rfl, ⟨nd, rfl⟩⟩; refine ⟨_, rfl, ?_⟩))
 go_ret
 exact ⟨by first | rfl | (simp; done) | (simp [*]; done), by repeat (first | exact Drawn0.refl _ | apply Drawn0.step)⟩

/-! ### kernel_Weight: function 73 -/
def kernel_Weight.j0 : Nat → Int → Int → Bool → Option (Int)
 | 0, _, _, _ => none
 | k + 1, x0, x1, x11 => if x11 = true then (some 0) else (if x0 = 0 then (if x1 ≥ (-32768) then (if x1 < 32768 then (some 65536) else (some 0)) else (some 0)) else (if x0 = 1 then (some (mx 0 (wrap64 (65536 - (mx x1 (wrap64 (-x1))))))) else (if x0 = 3 then (if (mx x1 (wrap64 (-x1))) < 32768 then (some 65536) else (if (mx x1 (wrap64 (-x1))) = 32768 then (some 32768) else (some 0))) else (if x0 = 2 then (if (mx x1 (wrap64 (-x1))) < 65536 then ((kernel_cubic.f k (mx x1 (wrap64 (-x1))) 3 (-5) 0 2 2).bind fun t186 => (some t186)) else ((kernel_cubic.f k (mx x1 (wrap64 (-x1))) (-1) 5 (-8) 4 2).bind fun t187 => (some t187))) else (if x0 = 4 then (if (mx x1 (wrap64 (-x1))) < 65536 then ((kernel_cubic.f k (mx x1 (wrap64 (-x1))) 21 (-36) 0 16 18).bind fun t188 => (some t188)) else ((kernel_cubic.f k (mx x1 (wrap64 (-x1))) (-7) 36 (-60) 32 18).bind fun t189 => (some t189))) else (some 0))))))
def kernel_Weight.f (k : Nat) (a0 : Int) (a1 : Int) : Option (Int) := if a1 ≤ (-131072) then (kernel_Weight.j0 k a0 a1 true) else (kernel_Weight.j0 k a0 a1 (decide (a1 ≥ 131072)))
theorem kernel_Weight.mono_l : ∀ k, (∀ y0 y1 y2, LeO (kernel_Weight.j0 k y0 y1 y2) (kernel_Weight.j0 (k + 1) y0 y1 y2))
 | 0 => fun _ _ _ r h => by simp [kernel_Weight.j0] at h
 | k + 1 => by
  have ih0 := kernel_Weight.mono_l k
  ·intro y0 y1 y2
   unfold kernel_Weight.j0
   repeat' first
   | (with_reducible exact ih0 _ _ _)
   | (with_reducible exact kernel_cubic.mono _ _ _ _ _ _ _)
   | (with_reducible exact LeO.refl _)
   | (with_reducible exact LeO.none _)
   | (with_reducible refine LeO.ite ?_ ?_)
   | (with_reducible refine LeO.bind ?_ (fun _ => ?_))
   | exact ih0 _ _ _
   | exact kernel_cubic.mono _ _ _ _ _ _ _
   | exact LeO.none _
   | refine LeO.ite ?_ ?_
   | refine LeO.bind ?_ (fun _ => ?_)
theorem kernel_Weight.mono : ∀ a0 a1 k, LeO (kernel_Weight.f k a0 a1) (kernel_Weight.f (k + 1) a0 a1) := by
 intro a0 a1 k
 have ih0 := kernel_Weight.mono_l k
 unfold kernel_Weight.f
 repeat' first
   | (with_reducible exact ih0 _ _ _)
   | (with_reducible exact kernel_cubic.mono _ _ _ _ _ _ _)
   | (with_reducible exact LeO.refl _)
   | (with_reducible exact LeO.none _)
   | (with_reducible refine LeO.ite ?_ ?_)
   | (with_reducible refine LeO.bind ?_ (fun _ => ?_))
   | exact ih0 _ _ _
   | exact kernel_cubic.mono _ _ _ _ _ _ _
   | exact LeO.none _
   | refine LeO.ite ?_ ?_
   | refine LeO.bind ?_ (fun _ => ?_)
set_option maxHeartbeats 8000000 in
set_option maxRecDepth 100000 in
theorem kernel_Weight.calls (k : Nat) (a0 : Int) (a1 : Int) (r : Int) (w : World) (h : kernel_Weight.f k a0 a1 = some r) :
  Calls Try.prog 73 #[.int .i64 a0, .int .i64 a1] w fun e w' => e = .returned (.int .i64 r) ∧ Below w.heap.size w w' := by
 have HB := Aside0.mk (Below.refl w.heap.size w)
 have H : (if a1 ≤ (-131072) then (kernel_Weight.j0 k a0 a1 true) else (kernel_Weight.j0 k a0 a1 (decide (a1 ≥ 131072)))) = some r := h
 clear h
 have HC3 := Aside0.mk H
 clear H
 go_enter Try.func73, Try.ntmps73
 go_upto_region 1 with (fail)
 go_cut [11] (fun v11 wc => ∃ (kq : Nat) (x11_2 : Bool), v11 = .bool x11_2 ∧ Aside0 (kernel_Weight.j0 kq a0 a1 x11_2 = some r) ∧ Aside0 (kq ≤ k) ∧ Aside0 (Below w.heap.size w wc))
 case first =>
  have H := HC3.out
  clear HC3
  by_cases c4 : a1 ≤ (-131072)
  ·rw [if_pos c4] at H
   have E2 : decide (a1 ≤ (-131072)) = true := decide_eq_true c4
   clear c4
   (first | rw [E2] | (simp only [i64_w, i32_w]; rw [E2]) | skip)
   have H' := Aside0.mk H
   clear H
   go_wp2
   go_meet
   case rel => exact ⟨_, (true), (by first | rfl | (simp; done) | (simp [*]; done)), H', ⟨by first | omega | exact Nat.le_refl _⟩, ⟨by exact zb0 HB⟩⟩
  rw [if_neg c4] at H
  have E2 : decide (a1 ≤ (-131072)) = false := decide_eq_false c4
  clear c4
  (first | rw [E2] | (simp only [i64_w, i32_w]; rw [E2]) | skip)
  have H' := Aside0.mk H
  clear H
  go_wp2
  go_meet
  case rel => exact ⟨_, (decide (a1 ≥ 131072)), (by first | rfl | (simp; done) | (simp [*]; done)), H', ⟨by first | omega | exact Nat.le_refl _⟩, ⟨by exact zb0 HB⟩⟩
 case rest =>
  clear HC3
  try clear p2
  try clear c4
  try clear E2
  obtain ⟨kq, x11_2, rfl, HA, HJ2, HB⟩ := hcut
  cases kq with
  | zero => exact absurd HA.out (by simp [kernel_Weight.j0])
  | succ kj2 =>
   have H := HA.out
   clear HA
   simp only [kernel_Weight.j0] at H
   by_cases c5 : x11_2 = true
   ·subst c5
    rw [if_pos rfl] at H
    obtain rfl := Option.some.inj H
    go_wp2
    go_ret
    exact ⟨by first | rfl | (simp [errW_none, errW_some] <;> rfl) | (simp [*, errW_none, errW_some] <;> rfl), by exact zb0 HB⟩
   replace c5 := Bool.eq_false_iff.mpr c5
   subst c5
   rw [if_neg (show ¬ (false = true) by decide)] at H
   obtain ⟨E0, E1⟩ : ∃ j_ : Int, (mx a1 (wrap64 (-a1))) = j_ := ⟨_, rfl⟩
   replace H : (if a0 = 0 then (if a1 ≥ (-32768) then (if a1 < 32768 then (some 65536) else (some 0)) else (some 0)) else (if a0 = 1 then (some (mx 0 (wrap64 (65536 - (E0))))) else (if a0 = 3 then (if (E0) < 32768 then (some 65536) else (if (E0) = 32768 then (some 32768) else (some 0))) else (if a0 = 2 then (if (E0) < 65536 then ((kernel_cubic.f kj2 (E0) 3 (-5) 0 2 2).bind fun t186 => (some t186)) else ((kernel_cubic.f kj2 (E0) (-1) 5 (-8) 4 2).bind fun t187 => (some t187))) else (if a0 = 4 then (if (E0) < 65536 then ((kernel_cubic.f kj2 (E0) 21 (-36) 0 16 18).bind fun t188 => (some t188)) else ((kernel_cubic.f kj2 (E0) (-7) 36 (-60) 32 18).bind fun t189 => (some t189))) else (some 0)))))) = some r := by first | (rw [E1] at H; exact H) | (simp only [E1] at H ⊢; exact H)
   have hji6_ : (if a1 < (wrap64 (-a1)) then (wrap64 (-a1)) else a1) = E0 := E1
   by_cases c7 : a0 = 0
   ·rw [if_pos c7] at H
    have E5 : (a0 == 0) = true := beq_iff_eq.mpr c7
    have E6 : (a0 != 0) = false := bne_eq_false_iff_eq.mpr c7
    clear c7
    by_cases c8 : a1 ≥ (-32768)
    ·rw [if_pos c8] at H
     have E7 : decide ((-32768) ≤ a1) = true := decide_eq_true c8
     clear c8
     by_cases c9 : a1 < 32768
     ·rw [if_pos c9] at H
      have E8 : decide (a1 < 32768) = true := decide_eq_true c9
      clear c9
      obtain rfl := Option.some.inj H
      go_wp2
      go_ret
      exact ⟨by first | rfl | (simp [errW_none, errW_some] <;> rfl) | (simp only [← E1]; first | rfl | (simp [errW_none, errW_some] <;> rfl)) | (simp [*, errW_none, errW_some] <;> rfl), by exact zb0 HB⟩
     rw [if_neg c9] at H
     have E8 : decide (a1 < 32768) = false := decide_eq_false c9
     clear c9
     obtain rfl := Option.some.inj H
     go_wp2
     go_ret
     exact ⟨by first | rfl | (simp [errW_none, errW_some] <;> rfl) | (simp only [← E1]; first | rfl | (simp [errW_none, errW_some] <;> rfl)) | (simp [*, errW_none, errW_some] <;> rfl), by exact zb0 HB⟩
    rw [if_neg c8] at H
    have E7 : decide ((-32768) ≤ a1) = false := decide_eq_false c8
    clear c8
    obtain rfl := Option.some.inj H
    go_wp2
    go_ret
    exact ⟨by first | rfl | (simp [errW_none, errW_some] <;> rfl) | (simp only [← E1]; first | rfl | (simp [errW_none, errW_some] <;> rfl)) | (simp [*, errW_none, errW_some] <;> rfl), by exact zb0 HB⟩
   rw [if_neg c7] at H
   have E5 : (a0 == 0) = false := beq_eq_false_iff_ne.mpr c7
   have E6 : (a0 != 0) = true := bne_iff_ne.mpr c7
   by_cases c10 : a0 = 1
   ·rw [if_pos c10] at H
    have E9 : (a0 == 1) = true := beq_iff_eq.mpr c10
    have G0 : (a0 != 1) = false := bne_eq_false_iff_eq.mpr c10
    clear c10
    obtain ⟨E4, E3⟩ : ∃ j_ : Int, (mx 0 (wrap64 (65536 - (E0)))) = j_ := ⟨_, rfl⟩
    replace H : (some E4) = some r := by first | (rw [E3] at H; exact H) | (simp only [E3] at H ⊢; exact H)
    have hji11_ : (if 0 < (wrap64 (65536 - (E0))) then (wrap64 (65536 - (E0))) else 0) = E4 := E3
    obtain rfl := Option.some.inj H
    go_wp2
    go_ret
    exact ⟨by first | rfl | (simp [errW_none, errW_some] <;> rfl) | (simp only [← E1, ← E3]; first | rfl | (simp [errW_none, errW_some] <;> rfl)) | (simp [*, errW_none, errW_some] <;> rfl), by exact zb0 HB⟩
   rw [if_neg c10] at H
   have E9 : (a0 == 1) = false := beq_eq_false_iff_ne.mpr c10
   have G0 : (a0 != 1) = true := bne_iff_ne.mpr c10
   by_cases c12 : a0 = 3
   ·rw [if_pos c12] at H
    have G1 : (a0 == 3) = true := beq_iff_eq.mpr c12
    have G2 : (a0 != 3) = false := bne_eq_false_iff_eq.mpr c12
    clear c12
    by_cases c13 : (E0) < 32768
    ·rw [if_pos c13] at H
     have G3 : decide ((E0) < 32768) = true := decide_eq_true c13
     clear c13
     obtain rfl := Option.some.inj H
     go_wp2
     go_ret
     exact ⟨by first | rfl | (simp [errW_none, errW_some] <;> rfl) | (simp only [← E1]; first | rfl | (simp [errW_none, errW_some] <;> rfl)) | (simp [*, errW_none, errW_some] <;> rfl), by exact zb0 HB⟩
    rw [if_neg c13] at H
    have G3 : decide ((E0) < 32768) = false := decide_eq_false c13
    clear c13
    by_cases c14 : (E0) = 32768
    ·rw [if_pos c14] at H
     have G4 : ((E0) == 32768) = true := beq_iff_eq.mpr c14
     have G5 : ((E0) != 32768) = false := bne_eq_false_iff_eq.mpr c14
     clear c14
     obtain rfl := Option.some.inj H
     go_wp2
     go_ret
     exact ⟨by first | rfl | (simp [errW_none, errW_some] <;> rfl) | (simp only [← E1]; first | rfl | (simp [errW_none, errW_some] <;> rfl)) | (simp [*, errW_none, errW_some] <;> rfl), by exact zb0 HB⟩
    rw [if_neg c14] at H
    have G4 : ((E0) == 32768) = false := beq_eq_false_iff_ne.mpr c14
    have G5 : ((E0) != 32768) = true := bne_iff_ne.mpr c14
    obtain rfl := Option.some.inj H
    go_wp2
    go_ret
    exact ⟨by first | rfl | (simp [errW_none, errW_some] <;> rfl) | (simp only [← E1]; first | rfl | (simp [errW_none, errW_some] <;> rfl)) | (simp [*, errW_none, errW_some] <;> rfl), by exact zb0 HB⟩
   rw [if_neg c12] at H
   have G1 : (a0 == 3) = false := beq_eq_false_iff_ne.mpr c12
   have G2 : (a0 != 3) = true := bne_iff_ne.mpr c12
   by_cases c15 : a0 = 2
   ·rw [if_pos c15] at H
    have G6 : (a0 == 2) = true := beq_iff_eq.mpr c15
    have G7 : (a0 != 2) = false := bne_eq_false_iff_eq.mpr c15
    clear c15
    by_cases c16 : (E0) < 65536
    ·rw [if_pos c16] at H
     have G8 : decide ((E0) < 65536) = true := decide_eq_true c16
     clear c16
     replace H := Option.bind_eq_some_iff.mp H
     obtain ⟨t186, A170, H⟩ := H
     try dsimp only at H
     have A17 := Aside0.mk A170
     clear A170
     obtain rfl := Option.some.inj H
     go_wp2_with (first | ((with_reducible refine gate_callee (f := 80) rfl ?_); refine goesL_ (some 41) rfl rfl Try.func80 (by kernel_rfl) rfl #[.int .i64 E0, .int .i64 3, .int .i64 (-5), .int .i64 0, .int .i64 2, .int .i64 2] rfl (by (try simp only [List.map_toArray, List.map_cons, List.map_nil]); first | done | (simp only [E1]; rfl) | rfl | (simp only [List.length_drop, List.length_take]; rfl)) ?_; (with_reducible refine (kernel_cubic.calls kj2 E0 3 (-5) 0 2 2 t186 _ A17.out).mono ?_); rintro e w' ⟨rfl, ⟨nd, rfl⟩⟩; refine ⟨_, rfl, ?_⟩))
     go_ret
     exact ⟨by first | rfl | (simp [errW_none, errW_some] <;> rfl) | (simp only [← E1]; first | rfl | (simp [errW_none, errW_some] <;> rfl)) | (simp [*, errW_none, errW_some] <;> rfl), by exact zb0 HB⟩
    rw [if_neg c16] at H
    have G8 : decide ((E0) < 65536) = false := decide_eq_false c16
    clear c16
    replace H := Option.bind_eq_some_iff.mp H
    obtain ⟨t187, A180, H⟩ := H
    try dsimp only at H
    have A18 := Aside0.mk A180
    clear A180
    obtain rfl := Option.some.inj H
    go_wp2_with (first | ((with_reducible refine gate_callee (f := 80) rfl ?_); refine goesL_ (some 43) rfl rfl Try.func80 (by kernel_rfl) rfl #[.int .i64 E0, .int .i64 (-1), .int .i64 5, .int .i64 (-8), .int .i64 4, .int .i64 2] rfl (by (try simp only [List.map_toArray, List.map_cons, List.map_nil]); first | done | (simp only [E1]; rfl) | rfl | (simp only [List.length_drop, List.length_take]; rfl)) ?_; (with_reducible refine (kernel_cubic.calls kj2 E0 (-1) 5 (-8) 4 2 t187 _ A18.out).mono ?_); rintro e w' ⟨rfl, ⟨nd, rfl⟩⟩; refine ⟨_, rfl, ?_⟩))
    go_ret
    exact ⟨by first | rfl | (simp [errW_none, errW_some] <;> rfl) | (simp only [← E1]; first | rfl | (simp [errW_none, errW_some] <;> rfl)) | (simp [*, errW_none, errW_some] <;> rfl), by exact zb0 HB⟩
   rw [if_neg c15] at H
   have G6 : (a0 == 2) = false := beq_eq_false_iff_ne.mpr c15
   have G7 : (a0 != 2) = true := bne_iff_ne.mpr c15
   by_cases c19 : a0 = 4
   rotate_left
   ·rw [if_neg c19] at H
    have G9 : (a0 == 4) = false := beq_eq_false_iff_ne.mpr c19
    have V0 : (a0 != 4) = true := bne_iff_ne.mpr c19
    obtain rfl := Option.some.inj H
    go_wp2
    go_ret
    exact ⟨by first | rfl | (simp [errW_none, errW_some] <;> rfl) | (simp only [← E1]; first | rfl | (simp [errW_none, errW_some] <;> rfl)) | (simp [*, errW_none, errW_some] <;> rfl), by exact zb0 HB⟩

   rw [if_pos c19] at H
   have G9 : (a0 == 4) = true := beq_iff_eq.mpr c19
   have V0 : (a0 != 4) = false := bne_eq_false_iff_eq.mpr c19
   clear c19
   by_cases c20 : (E0) < 65536
   ·rw [if_pos c20] at H
    have V1 : decide ((E0) < 65536) = true := decide_eq_true c20
    clear c20
    replace H := Option.bind_eq_some_iff.mp H
    obtain ⟨t188, A210, H⟩ := H
    try dsimp only at H
    have A21 := Aside0.mk A210
    clear A210
    obtain rfl := Option.some.inj H
    go_wp2_with (first | ((with_reducible refine gate_callee (f := 80) rfl ?_); refine goesL_ (some 49) rfl rfl Try.func80 (by kernel_rfl) rfl #[.int .i64 E0, .int .i64 21, .int .i64 (-36), .int .i64 0, .int .i64 16, .int .i64 18] rfl (by (try simp only [List.map_toArray, List.map_cons, List.map_nil]); first | done | (simp only [E1]; rfl) | rfl | (simp only [List.length_drop, List.length_take]; rfl)) ?_; (with_reducible refine (kernel_cubic.calls kj2 E0 21 (-36) 0 16 18 t188 _ A21.out).mono ?_); rintro e w' ⟨rfl, ⟨nd, rfl⟩⟩; refine ⟨_, rfl, ?_⟩))
    go_ret
    exact ⟨by first | rfl | (simp [errW_none, errW_some] <;> rfl) | (simp only [← E1]; first | rfl | (simp [errW_none, errW_some] <;> rfl)) | (simp [*, errW_none, errW_some] <;> rfl), by exact zb0 HB⟩
   rw [if_neg c20] at H
   have V1 : decide ((E0) < 65536) = false := decide_eq_false c20
   clear c20
   replace H := Option.bind_eq_some_iff.mp H
   obtain ⟨t189, A220, H⟩ := H
   try dsimp only at H
   have A22 := Aside0.mk A220
   clear A220
   obtain rfl := Option.some.inj H
   go_wp2_with (first | ((with_reducible refine gate_callee (f := 80) rfl ?_); refine goesL_ (some 51) rfl rfl Try.func80 (by kernel_rfl) rfl #[.int .i64 E0, .int .i64 (-7), .int .i64 36, .int .i64 (-60), .int .i64 32, .int .i64 18] rfl (by (try simp only [List.map_toArray, List.map_cons, List.map_nil]); first | done | (simp only [E1]; rfl) | rfl | (simp only [List.length_drop, List.length_take]; rfl)) ?_; (with_reducible refine (kernel_cubic.calls kj2 E0 (-7) 36 (-60) 32 18 t189 _ A22.out).mono ?_); rintro e w' ⟨rfl, ⟨nd, rfl⟩⟩; refine ⟨_, rfl, ?_⟩))
   go_ret
   exact ⟨by first | rfl | (simp [errW_none, errW_some] <;> rfl) | (simp only [← E1]; first | rfl | (simp [errW_none, errW_some] <;> rfl)) | (simp [*, errW_none, errW_some] <;> rfl), by exact zb0 HB⟩
end Go.Proofs.Ytapdifpmijgkcaa.G
