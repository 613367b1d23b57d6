/- Contracts of functions of the program, each as it is called: what it computes (.f), that it computes no less with more rounds (.mono), and that a call returns just that (.calls). No conditions but those that each contract names. Written by a program of this session (wip/gx.py over the kit's print). -/
import Derived.Test.YtnfbabmceddciaaG0
import Derived.Test.YtnfbabmceddciaaG1
import Derived.Test.YtnfbabmceddciaaG2
import Derived.Test.YtnfbabmceddciaaG4
import Derived.Test.YtnfbabmceddciaaG6
import Derived.Test.YtnfbabmceddciaaG7
import Derived.Test.YtnfbabmceddciaaG13
namespace Go.Proofs.Ytnfbabmceddciaa.G
open Go.RowKit Go.Proofs.YtnfbabmceddciaaW.PrintWords Go.Proofs.YtnfbabmceddciaaW.PrintLast Go.Proofs.YtnfbabmceddciaaW.PrintMore
attribute [local go_sem] max2_int min2_int max_two min_two max_three min_three max_four min_four max_five min_five   -- for this text's walks alone
set_option linter.unusedVariables false
set_option linter.unusedSimpArgs false


attribute [local go_sem high] eqA28
/-! ### imageeditorlaw15_WarpMeshes: function 3 -/
def imageeditorlaw15_WarpMeshes.f (k : Nat) (a0_0 : Int) (a0_1 : Int) (a0_2 : Int) (l0_3 : List (S28)) (a1 : Int) (a2 : Int) : Option (Bool) := (warp_Check.f k a0_0 a0_1 a0_2 l0_3).bind fun t473 => ((imageeditorref15_Check.f k a0_0 a0_1 a0_2 l0_3).bind fun t474 => (if t473 = t474 then ((warp_At.f k a0_0 a0_1 a0_2 l0_3 a1 a2).bind fun bt475 => ((imageeditorref15_At.f k a0_0 a0_1 a0_2 l0_3 a1 a2).bind fun bt477 => (if (bt475.1 == bt477.1 && (bt475.2 == bt477.2)) = true then ((warp_Reach.f k a0_0 a0_1 a0_2 l0_3).bind fun t479 => ((imageeditorref15_Reach.f k a0_0 a0_1 a0_2 l0_3).bind fun t480 => (if t479 = t480 then ((imageeditorlaw15_awake.f k).bind fun t481 => (some t481)) else (some false)))) else (some false)))) else (some false)))
theorem imageeditorlaw15_WarpMeshes.mono : ∀ a0 a1 a2 a3 a4 a5 k, LeO (imageeditorlaw15_WarpMeshes.f k a0 a1 a2 a3 a4 a5) (imageeditorlaw15_WarpMeshes.f (k + 1) a0 a1 a2 a3 a4 a5) := by
 intro a0 a1 a2 a3 a4 a5 k
 unfold imageeditorlaw15_WarpMeshes.f
 repeat' first
   | (with_reducible exact imageeditorlaw15_awake.mono _)
   | (with_reducible exact imageeditorref15_At.mono _ _ _ _ _ _ _)
   | (with_reducible exact imageeditorref15_Check.mono _ _ _ _ _)
   | (with_reducible exact imageeditorref15_Reach.mono _ _ _ _ _)
   | (with_reducible exact warp_At.mono _ _ _ _ _ _ _)
   | (with_reducible exact warp_Check.mono _ _ _ _ _)
   | (with_reducible exact warp_Reach.mono _ _ _ _ _)
   | (with_reducible exact LeO.refl _)
   | (with_reducible exact LeO.none _)
   | (with_reducible refine LeO.ite ?_ ?_)
   | (with_reducible refine LeO.bind ?_ (fun _ => ?_))
   | exact imageeditorlaw15_awake.mono _
   | exact imageeditorref15_At.mono _ _ _ _ _ _ _
   | exact imageeditorref15_Check.mono _ _ _ _ _
   | exact imageeditorref15_Reach.mono _ _ _ _ _
   | exact warp_At.mono _ _ _ _ _ _ _
   | exact warp_Check.mono _ _ _ _ _
   | exact warp_Reach.mono _ _ _ _ _
   | exact LeO.none _
   | refine LeO.ite ?_ ?_
   | refine LeO.bind ?_ (fun _ => ?_)
def imageeditorlaw15_WarpMeshes.T1 : Bool × List (List Nat × List Nat) := (true, [([], []), ([0], [0]), ([], []), ([2, 1], [2]), ([1, 3], [1, 3]), ([4, 3], [4]), ([5], [5]), ([5], [5]), ([5], [5]), ([6, 7, 8, 5, 5], [5, 6, 7, 8]), ([5], [5]), ([5], [5]), ([5], [5]), ([10, 11, 12, 9, 5], [5, 10, 11, 12]), ([9, 13, 5], [5, 9, 13]), ([5, 14], [5, 14]), ([15, 13], [15]), ([16], [16]), ([17, 16, 16], [16, 17]), ([16], [16]), ([19, 18, 16], [16, 19]), ([18, 20, 16], [16, 18, 20]), ([16, 21], [16, 21]), ([22, 20], [22]), ([23, 23], [23]), ([23, 24], [23, 24]), ([25, 24, 0, 1, 2, 3, 4, 5, 6, 7, 8, 9, 10, 11, 12, 13, 14, 15, 16, 17, 18, 19, 20, 21, 22, 23, 24, 25], [25])])
def imageeditorlaw15_WarpMeshes.B1 : List Nat := [0, 1, 0, 7, 15, 31, 63, 63, 63, 511, 63, 63, 63, 8191, 16383, 32767, 65535, 131071, 262143, 131071, 1048575, 2097151, 4194303, 8388607, 16777215, 33554431, 67108863]
theorem imageeditorlaw15_WarpMeshes.tab1 : rtab .any (opsOf Try.f3 1) = imageeditorlaw15_WarpMeshes.T1 := by kernel_rfl
theorem imageeditorlaw15_WarpMeshes.bits1 : waitsOk imageeditorlaw15_WarpMeshes.T1.2 imageeditorlaw15_WarpMeshes.B1 = true := by kernel_rfl
set_option maxHeartbeats 8000000 in
set_option maxRecDepth 100000 in
theorem imageeditorlaw15_WarpMeshes.callsT (k : Nat) (a0_0 : Int) (a0_1 : Int) (a0_2 : Int) (A0_3 : Option Addr) (c0_3 : Nat) (l0_3 : List (S28)) (a1 : Int) (a2 : Int) (r : Bool) (w : World) (hr0_3 : Kd.C k28 w A0_3 l0_3.length l0_3) (hc0_3 : l0_3.length ≤ c0_3) (hT : r = true) (h : imageeditorlaw15_WarpMeshes.f k a0_0 a0_1 a0_2 l0_3 a1 a2 = some r) :
  Calls Try.prog 3 #[.agg #[.int .i64 a0_0, .int .i64 a0_1, .int .i64 a0_2, .slice A0_3 l0_3.length c0_3], .int .i64 a1, .int .i64 a2] w fun e w' => e = .returned (.bool r) ∧ Below w.heap.size w w' := by
 have hu24 := Try.underlying24
 have HT := Aside0.mk hT
 clear hT
 have HR0_3 := Aside0.mk hr0_3
 have HC0_3 := Aside0.mk hc0_3
 clear hr0_3 hc0_3
 have HB := Aside0.mk (Below.refl w.heap.size w)
 have H : ((warp_Check.f k a0_0 a0_1 a0_2 l0_3).bind fun t473 => ((imageeditorref15_Check.f k a0_0 a0_1 a0_2 l0_3).bind fun t474 => (if t473 = t474 then ((warp_At.f k a0_0 a0_1 a0_2 l0_3 a1 a2).bind fun bt475 => ((imageeditorref15_At.f k a0_0 a0_1 a0_2 l0_3 a1 a2).bind fun bt477 => (if (bt475.1 == bt477.1 && (bt475.2 == bt477.2)) = true then ((warp_Reach.f k a0_0 a0_1 a0_2 l0_3).bind fun t479 => ((imageeditorref15_Reach.f k a0_0 a0_1 a0_2 l0_3).bind fun t480 => (if t479 = t480 then ((imageeditorlaw15_awake.f k).bind fun t481 => (some t481)) else (some false)))) else (some false)))) else (some false)))) = some r := h
 clear h
 replace H := Option.bind_eq_some_iff.mp H
 obtain ⟨t473, A40, H⟩ := H
 replace H : ((imageeditorref15_Check.f k a0_0 a0_1 a0_2 l0_3).bind fun t474 => (if t473 = t474 then ((warp_At.f k a0_0 a0_1 a0_2 l0_3 a1 a2).bind fun bt475 => ((imageeditorref15_At.f k a0_0 a0_1 a0_2 l0_3 a1 a2).bind fun bt477 => (if (bt475.1 == bt477.1 && (bt475.2 == bt477.2)) = true then ((warp_Reach.f k a0_0 a0_1 a0_2 l0_3).bind fun t479 => ((imageeditorref15_Reach.f k a0_0 a0_1 a0_2 l0_3).bind fun t480 => (if t479 = t480 then ((imageeditorlaw15_awake.f k).bind fun t481 => (some t481)) else (some false)))) else (some false)))) else (some false))) = some r := H
 have A4 := Aside0.mk A40
 clear A40
 replace H := Option.bind_eq_some_iff.mp H
 obtain ⟨t474, A50, H⟩ := H
 replace H : (if t473 = t474 then ((warp_At.f k a0_0 a0_1 a0_2 l0_3 a1 a2).bind fun bt475 => ((imageeditorref15_At.f k a0_0 a0_1 a0_2 l0_3 a1 a2).bind fun bt477 => (if (bt475.1 == bt477.1 && (bt475.2 == bt477.2)) = true then ((warp_Reach.f k a0_0 a0_1 a0_2 l0_3).bind fun t479 => ((imageeditorref15_Reach.f k a0_0 a0_1 a0_2 l0_3).bind fun t480 => (if t479 = t480 then ((imageeditorlaw15_awake.f k).bind fun t481 => (some t481)) else (some false)))) else (some false)))) else (some false)) = some r := H
 have A5 := Aside0.mk A50
 clear A50
 by_cases c6 : t473 = t474
 ·rw [if_pos c6] at H
  have c6b0 : (t473 == t474) = true := beq_iff_eq.mpr c6
  have c6b1 : (t473 != t474) = false := bne_eq_false_iff_eq.mpr c6
  clear c6
  replace H := Option.bind_eq_some_iff.mp H
  obtain ⟨⟨t475, t476⟩, A70, H⟩ := H
  replace H : ((imageeditorref15_At.f k a0_0 a0_1 a0_2 l0_3 a1 a2).bind fun bt477 => (if (t475 == bt477.1 && (t476 == bt477.2)) = true then ((warp_Reach.f k a0_0 a0_1 a0_2 l0_3).bind fun t479 => ((imageeditorref15_Reach.f k a0_0 a0_1 a0_2 l0_3).bind fun t480 => (if t479 = t480 then ((imageeditorlaw15_awake.f k).bind fun t481 => (some t481)) else (some false)))) else (some false))) = some r := H
  have A7 := Aside0.mk A70
  clear A70
  replace H := Option.bind_eq_some_iff.mp H
  obtain ⟨⟨t477, t478⟩, A80, H⟩ := H
  replace H : (if (t475 == t477 && (t476 == t478)) = true then ((warp_Reach.f k a0_0 a0_1 a0_2 l0_3).bind fun t479 => ((imageeditorref15_Reach.f k a0_0 a0_1 a0_2 l0_3).bind fun t480 => (if t479 = t480 then ((imageeditorlaw15_awake.f k).bind fun t481 => (some t481)) else (some false)))) else (some false)) = some r := H
  have A8 := Aside0.mk A80
  clear A80
  by_cases c9 : (t475 == t477 && (t476 == t478)) = true
  ·rw [if_pos c9] at H
   have c9b0 : (t475 == t477 && (t476 == t478)) = true := c9
   (try (have c9b1 : decide (t475 = t477 && (t476 == t478)) = true := by simpa using c9))
   (try (have c9b2 : (t475 == t477 && (t476 == t478)) = true := by simpa using c9))
   clear c9
   replace H := Option.bind_eq_some_iff.mp H
   obtain ⟨t479, A100, H⟩ := H
   replace H : ((imageeditorref15_Reach.f k a0_0 a0_1 a0_2 l0_3).bind fun t480 => (if t479 = t480 then ((imageeditorlaw15_awake.f k).bind fun t481 => (some t481)) else (some false))) = some r := H
   have A10 := Aside0.mk A100
   clear A100
   replace H := Option.bind_eq_some_iff.mp H
   obtain ⟨t480, A110, H⟩ := H
   replace H : (if t479 = t480 then ((imageeditorlaw15_awake.f k).bind fun t481 => (some t481)) else (some false)) = some r := H
   have A11 := Aside0.mk A110
   clear A110
   by_cases c12 : t479 = t480
   ·rw [if_pos c12] at H
    have c12b0 : (t479 == t480) = true := beq_iff_eq.mpr c12
    have c12b1 : (t479 != t480) = false := bne_eq_false_iff_eq.mpr c12
    clear c12
    replace H := Option.bind_eq_some_iff.mp H
    obtain ⟨t481, A130, H⟩ := H
    replace H : (some t481) = some r := H
    have A13 := Aside0.mk A130
    clear A130
    as_aux_lemma =>
     obtain rfl := Option.some.inj H
     go_enter Try.func3, Try.ntmps3
     try go_wp2_with (first | ((with_reducible refine gate_dst (N := 3) rfl ?_); refine box_event ?hg (N := 3) ?hd (cs := #[.int .i64 a0_0, .int .i64 a0_1, .int .i64 a0_2, .slice A0_3 l0_3.length c0_3]) (t := 24) ?hr ?_; (case hd => rfl); (case hg => rfl); (case hr => first | (go_simp; done) | (go_simp; rfl)); intro gb472 hg w14 hbox hb; have GW472 := zg HB hg; have GE472 := zg HB hg; have n0_ := Aside0.mk (hbox); replace HB := zb HB hb; have BK472 := n0_; clear n0_; clear hb hbox hg))
     replace BK472 := zkd BK472
     replace HB := zbd HB
     refine start_ (n := 27) (S := fun w' => w'.cell? ⟨gb472, 0, none⟩ = some (.int .i64 a0_0) ∧ w'.cell? ⟨gb472, 1, none⟩ = some (.int .i64 a0_1) ∧ w'.cell? ⟨gb472, 2, none⟩ = some (.int .i64 a0_2) ∧ w'.cell? ⟨gb472, 3, none⟩ = some (.slice A0_3 l0_3.length c0_3)) (ds := []) (bs 27 0) (by kernel_rfl) rfl rfl ⟨(blk_cell BK472.out 0).trans rfl, (blk_cell BK472.out 1).trans rfl, (blk_cell BK472.out 2).trans rfl, (blk_cell BK472.out 3).trans rfl⟩ (fun hHeld => ?_); refine with_tabW imageeditorlaw15_WarpMeshes.tab1 imageeditorlaw15_WarpMeshes.bits1 (fun HT_ HW_ => ?_)
     generalize w14.drew = w15 at BK472 HB hHeld ⊢
     refine take_ (i := 0) (N := some 7) (v := ?_) (a' := ?_) (bs 27 1) rfl rfl (take_ofW HT_.out HW_.out (by kernel_rfl)) (fun _ _ _ h => h) (Or.inl ⟨by rfl, ?_⟩) hHeld ?_ ?_
     rotate_left
     ·rintro w' ⟨s0, s1, s2, s3⟩
      go_simp
      with_reducible rfl
     rotate_left
     ·simp only [Act.put, sA, sB, sC, i64_w, i32_w]
      rfl
     refine take_ (i := 2) (N := some 9) (v := ?_) (a' := ?_) (bs 27 5) rfl rfl (take_ofW HT_.out HW_.out (by kernel_rfl)) (fun _ _ _ h => h) (Or.inl ⟨by rfl, ?_⟩) hHeld ?_ ?_
     rotate_left
     ·rintro w' ⟨s0, s1, s2, s3⟩
      go_simp
      with_reducible rfl
     rotate_left
     ·simp only [Act.put, sA, sB, sC, i64_w, i32_w]
      rfl
     refine one_ (i := 1) (N := some 8) (bs 27 7) rfl rfl (one_of HT_.out (by kernel_rfl)) (by decide) (fun K hK => ?_)
     refine goes_ Try.func10 (by kernel_rfl) rfl #[.agg #[.int .i64 a0_0, .int .i64 a0_1, .int .i64 a0_2, .slice A0_3 l0_3.length c0_3]] (by rfl) rfl rfl (by (try simp only [List.map_toArray, List.map_cons, List.map_nil]); first | done | rfl | (simp only [List.length_drop, List.length_take]; rfl)) ?_
     with_reducible refine (warp_Check.calls k a0_0 a0_1 a0_2 _ _ l0_3 t473 _ ?side1 ?side2 A4.out).mono ?_
     (case side1 => repeat (first | exact (Kd.C_below HR0_3.out HB.out) | (with_reducible refine Kd.C_alloc ?_ _) | (with_reducible refine Kd.C_drewN ?_ _) | (with_reducible refine Kd.C_drew ?_)))
     (case side2 => exact HC0_3.out)
     rintro e w16 ⟨rfl, hb⟩
     refine ⟨_, rfl, ?_⟩
     replace BK472 := zk BK472 hb
     replace HB := zb HB hb
     (try clear hb)
     (try clear hb2)
     (try clear hk)
     (try clear hi)
     refine hK.out _ _ ⟨(blk_cell BK472.out 0).trans rfl, (blk_cell BK472.out 1).trans rfl, (blk_cell BK472.out 2).trans rfl, (blk_cell BK472.out 3).trans rfl⟩ (fun hHeld => ?_)
     clear hK K
     refine norm_ (a' := ?_) ?_ ?_
     rotate_left
     ·show Act.put _ (some 8) _ = _
      simp only [Act.put, sA, sB, sC, i64_w, i32_w]
      rfl
     refine one_ (i := 3) (N := some 10) (bs 27 15) rfl rfl (one_of HT_.out (by kernel_rfl)) (by decide) (fun K hK => ?_)
     refine goes_ Try.func11 (by kernel_rfl) rfl #[.agg #[.int .i64 a0_0, .int .i64 a0_1, .int .i64 a0_2, .slice A0_3 l0_3.length c0_3]] (by rfl) rfl rfl (by (try simp only [List.map_toArray, List.map_cons, List.map_nil]); first | done | rfl | (simp only [List.length_drop, List.length_take]; rfl)) ?_
     with_reducible refine (imageeditorref15_Check.calls k a0_0 a0_1 a0_2 _ _ l0_3 t474 _ ?side1 ?side2 A5.out).mono ?_
     (case side1 => repeat (first | exact (Kd.C_below HR0_3.out HB.out) | (with_reducible refine Kd.C_alloc ?_ _) | (with_reducible refine Kd.C_drewN ?_ _) | (with_reducible refine Kd.C_drew ?_)))
     (case side2 => exact HC0_3.out)
     rintro e w17 ⟨rfl, hb⟩
     refine ⟨_, rfl, ?_⟩
     replace BK472 := zk BK472 hb
     replace HB := zb HB hb
     (try clear hb)
     (try clear hb2)
     (try clear hk)
     (try clear hi)
     refine hK.out _ _ ⟨(blk_cell BK472.out 0).trans rfl, (blk_cell BK472.out 1).trans rfl, (blk_cell BK472.out 2).trans rfl, (blk_cell BK472.out 3).trans rfl⟩ (fun hHeld => ?_)
     clear hK K
     refine norm_ (a' := ?_) ?_ ?_
     rotate_left
     ·show Act.put _ (some 10) _ = _
      simp only [Act.put, sA, sB, sC, i64_w, i32_w]
      rfl
     refine pure_ (i := 4) (N := some 11) (v := ?_) (a' := ?_) (bs 27 31) rfl rfl (any_of HT_.out (by kernel_rfl)) (fun _ _ _ h => h) (Or.inl ⟨by rfl, ?_⟩) ?_ ?_
     rotate_left
     ·intro w'
      go_simp
      with_reducible rfl
     rotate_left
     ·simp only [Act.put, sA, sB, sC, i64_w, i32_w]
      rfl
     refine pure_ (i := 5) (N := some 12) (v := ?_) (a' := ?_) (bs 27 63) rfl rfl (any_of HT_.out (by kernel_rfl)) (fun _ _ _ h => h) (Or.inl ⟨by rfl, ?_⟩) ?_ ?_
     rotate_left
     ·intro w'
      go_simp
      with_reducible rfl
     rotate_left
     ·simp only [Act.put, sA, sB, sC, i64_w, i32_w]
      rfl
     refine pure_ (i := 7) (N := some 14) (v := ?_) (a' := ?_) (bs 27 191) rfl rfl (any_of HT_.out (by kernel_rfl)) (fun _ _ _ h => h) (Or.inl ⟨by rfl, ?_⟩) ?_ ?_
     rotate_left
     ·intro w'
      go_simp
      with_reducible rfl
     rotate_left
     ·simp only [Act.put, sA, sB, sC, i64_w, i32_w]
      rfl
     refine pure_ (i := 8) (N := some 15) (v := ?_) (a' := ?_) (bs 27 447) rfl rfl (any_of HT_.out (by kernel_rfl)) (fun _ _ _ h => h) (Or.inl ⟨by rfl, ?_⟩) ?_ ?_
     rotate_left
     ·intro w'
      go_simp
      with_reducible rfl
     rotate_left
     ·simp only [Act.put, sA, sB, sC, i64_w, i32_w]
      rfl
     refine pure_ (i := 11) (N := some 18) (v := ?_) (a' := ?_) (bs 27 2495) rfl rfl (any_of HT_.out (by kernel_rfl)) (fun _ _ _ h => h) (Or.inl ⟨by rfl, ?_⟩) ?_ ?_
     rotate_left
     ·intro w'
      go_simp
      with_reducible rfl
     rotate_left
     ·simp only [Act.put, sA, sB, sC, i64_w, i32_w]
      rfl
     refine pure_ (i := 12) (N := some 19) (v := ?_) (a' := ?_) (bs 27 6591) rfl rfl (any_of HT_.out (by kernel_rfl)) (fun _ _ _ h => h) (Or.inl ⟨by rfl, ?_⟩) ?_ ?_
     rotate_left
     ·intro w'
      go_simp
      with_reducible rfl
     rotate_left
     ·simp only [Act.put, sA, sB, sC, i64_w, i32_w]
      rfl
     refine take_ (i := 6) (N := some 13) (v := ?_) (a' := ?_) (bs 27 6655) rfl rfl (take_ofW HT_.out HW_.out (by kernel_rfl)) (fun _ _ _ h => h) (Or.inl ⟨by rfl, ?_⟩) hHeld ?_ ?_
     rotate_left
     ·rintro w' ⟨s0, s1, s2, s3⟩
      go_simp
      with_reducible rfl
     rotate_left
     ·simp only [Act.put, sA, sB, sC, i64_w, i32_w]
      rfl
     refine take_ (i := 10) (N := some 17) (v := ?_) (a' := ?_) (bs 27 7679) rfl rfl (take_ofW HT_.out HW_.out (by kernel_rfl)) (fun _ _ _ h => h) (Or.inl ⟨by rfl, ?_⟩) hHeld ?_ ?_
     rotate_left
     ·rintro w' ⟨s0, s1, s2, s3⟩
      go_simp
      with_reducible rfl
     rotate_left
     ·simp only [Act.put, sA, sB, sC, i64_w, i32_w]
      rfl
     refine one_ (i := 9) (N := some 16) (bs 27 8191) rfl rfl (one_of HT_.out (by kernel_rfl)) (by decide) (fun K hK => ?_)
     refine goes_ Try.func12 (by kernel_rfl) rfl #[.agg #[.int .i64 a0_0, .int .i64 a0_1, .int .i64 a0_2, .slice A0_3 l0_3.length c0_3], .int .i64 a1, .int .i64 a2] (by rfl) rfl rfl (by (try simp only [List.map_toArray, List.map_cons, List.map_nil]); first | done | rfl | (simp only [List.length_drop, List.length_take]; rfl)) ?_
     with_reducible refine (warp_At.calls k a0_0 a0_1 a0_2 _ _ l0_3 a1 a2 t475 t476 _ ?side1 ?side2 A7.out).mono ?_
     (case side1 => repeat (first | exact (Kd.C_below HR0_3.out HB.out) | (with_reducible refine Kd.C_alloc ?_ _) | (with_reducible refine Kd.C_drewN ?_ _) | (with_reducible refine Kd.C_drew ?_)))
     (case side2 => exact HC0_3.out)
     rintro e w18 ⟨rfl, hb⟩
     refine ⟨_, rfl, ?_⟩
     replace BK472 := zk BK472 hb
     replace HB := zb HB hb
     (try clear hb)
     (try clear hb2)
     (try clear hk)
     (try clear hi)
     refine hK.out _ _ ⟨(blk_cell BK472.out 0).trans rfl, (blk_cell BK472.out 1).trans rfl, (blk_cell BK472.out 2).trans rfl, (blk_cell BK472.out 3).trans rfl⟩ (fun hHeld => ?_)
     clear hK K
     refine norm_ (a' := ?_) ?_ ?_
     rotate_left
     ·show Act.put _ (some 16) _ = _
      simp only [Act.put, sA, sB, sC, i64_w, i32_w]
      rfl
     refine one_ (i := 13) (N := some 20) (bs 27 16383) rfl rfl (one_of HT_.out (by kernel_rfl)) (by decide) (fun K hK => ?_)
     refine goes_ Try.func13 (by kernel_rfl) rfl #[.agg #[.int .i64 a0_0, .int .i64 a0_1, .int .i64 a0_2, .slice A0_3 l0_3.length c0_3], .int .i64 a1, .int .i64 a2] (by rfl) rfl rfl (by (try simp only [List.map_toArray, List.map_cons, List.map_nil]); first | done | rfl | (simp only [List.length_drop, List.length_take]; rfl)) ?_
     with_reducible refine (imageeditorref15_At.calls k a0_0 a0_1 a0_2 _ _ l0_3 a1 a2 t477 t478 _ ?side1 ?side2 A8.out).mono ?_
     (case side1 => repeat (first | exact (Kd.C_below HR0_3.out HB.out) | (with_reducible refine Kd.C_alloc ?_ _) | (with_reducible refine Kd.C_drewN ?_ _) | (with_reducible refine Kd.C_drew ?_)))
     (case side2 => exact HC0_3.out)
     rintro e w19 ⟨rfl, hb⟩
     refine ⟨_, rfl, ?_⟩
     replace BK472 := zk BK472 hb
     replace HB := zb HB hb
     (try clear hb)
     (try clear hb2)
     (try clear hk)
     (try clear hi)
     refine hK.out _ _ ⟨(blk_cell BK472.out 0).trans rfl, (blk_cell BK472.out 1).trans rfl, (blk_cell BK472.out 2).trans rfl, (blk_cell BK472.out 3).trans rfl⟩ (fun hHeld => ?_)
     clear hK K
     refine norm_ (a' := ?_) ?_ ?_
     rotate_left
     ·show Act.put _ (some 20) _ = _
      simp only [Act.put, sA, sB, sC, i64_w, i32_w]
      rfl
     refine pure_ (i := 14) (N := some 21) (v := ?_) (a' := ?_) (bs 27 32767) rfl rfl (any_of HT_.out (by kernel_rfl)) (fun _ _ _ h => h) (Or.inl ⟨by rfl, ?_⟩) ?_ ?_
     rotate_left
     ·intro w'
      go_simp
      with_reducible rfl
     rotate_left
     ·simp only [Act.put, sA, sB, sC, i64_w, i32_w]
      rfl
     refine pure_ (i := 15) (N := some 22) (v := ?_) (a' := ?_) (bs 27 65535) rfl rfl (any_of HT_.out (by kernel_rfl)) (fun _ _ _ h => h) (Or.inl ⟨by rfl, ?_⟩) ?_ ?_
     rotate_left
     ·intro w'
      go_simp
      with_reducible rfl
     rotate_left
     ·simp only [Act.put, sA, sB, sC, i64_w, i32_w]
      rfl
     refine pure_ (i := 16) (N := some 23) (v := ?_) (a' := ?_) (bs 27 131071) rfl rfl (any_of HT_.out (by kernel_rfl)) (fun _ _ _ h => h) (Or.inl ⟨by rfl, ?_⟩) ?_ ?_
     rotate_left
     ·intro w'
      go_simp
      with_reducible rfl
     rotate_left
     ·simp only [Act.put, sA, sB, sC, i64_w, i32_w]
      rfl
     refine take_ (i := 17) (N := some 24) (v := ?_) (a' := ?_) (bs 27 262143) rfl rfl (take_ofW HT_.out HW_.out (by kernel_rfl)) (fun _ _ _ h => h) (Or.inl ⟨by rfl, ?_⟩) hHeld ?_ ?_
     rotate_left
     ·rintro w' ⟨s0, s1, s2, s3⟩
      go_simp
      with_reducible rfl
     rotate_left
     ·simp only [Act.put, sA, sB, sC, i64_w, i32_w]
      rfl
     refine take_ (i := 19) (N := some 26) (v := ?_) (a' := ?_) (bs 27 786431) rfl rfl (take_ofW HT_.out HW_.out (by kernel_rfl)) (fun _ _ _ h => h) (Or.inl ⟨by rfl, ?_⟩) hHeld ?_ ?_
     rotate_left
     ·rintro w' ⟨s0, s1, s2, s3⟩
      go_simp
      with_reducible rfl
     rotate_left
     ·simp only [Act.put, sA, sB, sC, i64_w, i32_w]
      rfl
     refine one_ (i := 18) (N := some 25) (bs 27 1048575) rfl rfl (one_of HT_.out (by kernel_rfl)) (by decide) (fun K hK => ?_)
     refine goes_ Try.func14 (by kernel_rfl) rfl #[.agg #[.int .i64 a0_0, .int .i64 a0_1, .int .i64 a0_2, .slice A0_3 l0_3.length c0_3]] (by rfl) rfl rfl (by (try simp only [List.map_toArray, List.map_cons, List.map_nil]); first | done | rfl | (simp only [List.length_drop, List.length_take]; rfl)) ?_
     with_reducible refine (warp_Reach.calls k a0_0 a0_1 a0_2 _ _ l0_3 t479 _ ?side1 ?side2 A10.out).mono ?_
     (case side1 => repeat (first | exact (Kd.C_below HR0_3.out HB.out) | (with_reducible refine Kd.C_alloc ?_ _) | (with_reducible refine Kd.C_drewN ?_ _) | (with_reducible refine Kd.C_drew ?_)))
     (case side2 => exact HC0_3.out)
     rintro e w20 ⟨rfl, hb⟩
     refine ⟨_, rfl, ?_⟩
     replace BK472 := zk BK472 hb
     replace HB := zb HB hb
     (try clear hb)
     (try clear hb2)
     (try clear hk)
     (try clear hi)
     refine hK.out _ _ ⟨(blk_cell BK472.out 0).trans rfl, (blk_cell BK472.out 1).trans rfl, (blk_cell BK472.out 2).trans rfl, (blk_cell BK472.out 3).trans rfl⟩ (fun hHeld => ?_)
     clear hK K
     refine norm_ (a' := ?_) ?_ ?_
     rotate_left
     ·show Act.put _ (some 25) _ = _
      simp only [Act.put, sA, sB, sC, i64_w, i32_w]
      rfl
     refine one_ (i := 20) (N := some 27) (bs 27 2097151) rfl rfl (one_of HT_.out (by kernel_rfl)) (by decide) (fun K hK => ?_)
     refine goes_ Try.func15 (by kernel_rfl) rfl #[.agg #[.int .i64 a0_0, .int .i64 a0_1, .int .i64 a0_2, .slice A0_3 l0_3.length c0_3]] (by rfl) rfl rfl (by (try simp only [List.map_toArray, List.map_cons, List.map_nil]); first | done | rfl | (simp only [List.length_drop, List.length_take]; rfl)) ?_
     with_reducible refine (imageeditorref15_Reach.calls k a0_0 a0_1 a0_2 _ _ l0_3 t480 _ ?side1 ?side2 A11.out).mono ?_
     (case side1 => repeat (first | exact (Kd.C_below HR0_3.out HB.out) | (with_reducible refine Kd.C_alloc ?_ _) | (with_reducible refine Kd.C_drewN ?_ _) | (with_reducible refine Kd.C_drew ?_)))
     (case side2 => exact HC0_3.out)
     rintro e w21 ⟨rfl, hb⟩
     refine ⟨_, rfl, ?_⟩
     replace BK472 := zk BK472 hb
     replace HB := zb HB hb
     (try clear hb)
     (try clear hb2)
     (try clear hk)
     (try clear hi)
     refine hK.out _ _ ⟨(blk_cell BK472.out 0).trans rfl, (blk_cell BK472.out 1).trans rfl, (blk_cell BK472.out 2).trans rfl, (blk_cell BK472.out 3).trans rfl⟩ (fun hHeld => ?_)
     clear hK K
     refine norm_ (a' := ?_) ?_ ?_
     rotate_left
     ·show Act.put _ (some 27) _ = _
      simp only [Act.put, sA, sB, sC, i64_w, i32_w]
      rfl
     refine pure_ (i := 21) (N := some 28) (v := ?_) (a' := ?_) (bs 27 4194303) rfl rfl (any_of HT_.out (by kernel_rfl)) (fun _ _ _ h => h) (Or.inl ⟨by rfl, ?_⟩) ?_ ?_
     rotate_left
     ·intro w'
      go_simp
      with_reducible rfl
     rotate_left
     ·simp only [Act.put, sA, sB, sC, i64_w, i32_w]
      rfl
     refine pure_ (i := 22) (N := some 29) (v := ?_) (a' := ?_) (bs 27 8388607) rfl rfl (any_of HT_.out (by kernel_rfl)) (fun _ _ _ h => h) (Or.inl ⟨by rfl, ?_⟩) ?_ ?_
     rotate_left
     ·intro w'
      go_simp
      with_reducible rfl
     rotate_left
     ·simp only [Act.put, sA, sB, sC, i64_w, i32_w]
      rfl
     refine pure_ (i := 23) (N := some 30) (v := ?_) (a' := ?_) (bs 27 16777215) rfl rfl (any_of HT_.out (by kernel_rfl)) (fun _ _ _ h => h) (Or.inl ⟨by rfl, ?_⟩) ?_ ?_
     rotate_left
     ·intro w'
      go_simp
      with_reducible rfl
     rotate_left
     ·simp only [Act.put, sA, sB, sC, i64_w, i32_w]
      rfl
     refine one_ (i := 24) (N := some 31) (bs 27 33554431) rfl rfl (one_of HT_.out (by kernel_rfl)) (by decide) (fun K hK => ?_)
     refine goes_ Try.func16 (by kernel_rfl) rfl #[] (by rfl) rfl rfl (by (try simp only [List.map_toArray, List.map_cons, List.map_nil]); first | done | rfl | (simp only [List.length_drop, List.length_take]; rfl)) ?_
     with_reducible refine (imageeditorlaw15_awake.calls k  t481 _ A13.out).mono ?_
     rintro e w22 ⟨rfl, hb⟩
     refine ⟨_, rfl, ?_⟩
     replace BK472 := zk BK472 hb
     replace HB := zb HB hb
     (try clear hb)
     (try clear hb2)
     (try clear hk)
     (try clear hi)
     refine hK.out _ _ ⟨(blk_cell BK472.out 0).trans rfl, (blk_cell BK472.out 1).trans rfl, (blk_cell BK472.out 2).trans rfl, (blk_cell BK472.out 3).trans rfl⟩ (fun hHeld => ?_)
     clear hK K
     refine norm_ (a' := ?_) ?_ ?_
     rotate_left
     ·show Act.put _ (some 31) _ = _
      simp only [Act.put, sA, sB, sC, i64_w, i32_w]
      rfl
     refine pure_ (i := 25) (N := some 32) (v := ?_) (a' := ?_) (bs 27 67108863) rfl rfl (any_of HT_.out (by kernel_rfl)) (fun _ _ _ h => h) (Or.inl ⟨by rfl, ?_⟩) ?_ ?_
     rotate_left
     ·intro w'
      go_simp
      with_reducible rfl
     rotate_left
     ·simp only [Act.put, sA, sB, sC, i64_w, i32_w]
      rfl
     refine pure_ (i := 26) (N := some 6) (v := ?_) (a' := ?_) (bs 27 134217727) rfl rfl (any_of HT_.out (by kernel_rfl)) (fun _ _ _ h => h) (Or.inl ⟨by rfl, ?_⟩) ?_ ?_
     rotate_left
     ·intro w'
      go_simp
      with_reducible rfl
     rotate_left
     ·simp only [Act.put, sA, sB, sC, i64_w, i32_w]
      rfl
     refine done_ (done_of HT_.out (by kernel_rfl)) ?_
     try go_wp2
     go_ret
     exact ⟨by first | rfl | (simp [errW_none, errW_some] <;> rfl) | (simp [*, errW_none, errW_some] <;> rfl), by exact zb0 HB⟩
   ·rw [if_neg c12] at H
    have c12b0 : (t479 == t480) = false := beq_eq_false_iff_ne.mpr c12
    have c12b1 : (t479 != t480) = true := bne_iff_ne.mpr c12
    as_aux_lemma =>
     exact absurd HT.out (by rw [← Option.some.inj H]; decide)
  ·rw [if_neg c9] at H
   have c9b0 : (t475 == t477 && (t476 == t478)) = false := by simpa using c9
   (try (have c9b1 : decide (t475 = t477 && (t476 == t478)) = false := by simpa using c9))
   (try (have c9b2 : (t475 == t477 && (t476 == t478)) = false := by simpa using c9))
   (try (have c9b3 : ¬ (t475 = t477 && (t476 == t478)) := by simpa using c9))
   clear c9
   as_aux_lemma =>
    exact absurd HT.out (by rw [← Option.some.inj H]; decide)
 ·rw [if_neg c6] at H
  have c6b0 : (t473 == t474) = false := beq_eq_false_iff_ne.mpr c6
  have c6b1 : (t473 != t474) = true := bne_iff_ne.mpr c6
  as_aux_lemma =>
   exact absurd HT.out (by rw [← Option.some.inj H]; decide)

end Go.Proofs.Ytnfbabmceddciaa.G
