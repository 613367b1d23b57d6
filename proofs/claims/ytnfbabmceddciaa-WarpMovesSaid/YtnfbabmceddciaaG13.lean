/- Contracts of functions of the program, each as it is called: what it computes (.f), that it computes no less with more rounds (.mono), and that a call returns just that (.calls). No conditions but those that each contract names. Written by a program of this session (wip/gx.py over the kit's print). -/
import Derived.Test.YtnfbabmceddciaaG0
import Derived.Test.YtnfbabmceddciaaG1
import Derived.Test.YtnfbabmceddciaaG4
import Derived.Test.YtnfbabmceddciaaG8
import Derived.Test.YtnfbabmceddciaaG12
namespace Go.Proofs.Ytnfbabmceddciaa.G
open Go.RowKit Go.Proofs.YtnfbabmceddciaaW.PrintWords Go.Proofs.YtnfbabmceddciaaW.PrintLast Go.Proofs.YtnfbabmceddciaaW.PrintMore
attribute [local go_sem] max2_int min2_int max_two min_two max_three min_three max_four min_four max_five min_five   -- for this text's walks alone
set_option linter.unusedVariables false
set_option linter.unusedSimpArgs false


attribute [local go_sem high] eqA28 eqA34 eqA48
/-! ### imageeditorlaw15_mesh: function 33 -/
def imageeditorlaw15_mesh.f (a0 : Int) (a1 : Int) (a2 : Int) (a3 : Int) (a4 : Int) : Option (Int × Int × Int × (List (S28))) := some (2, 2, a0, (([(⟨a1, 0⟩ : S28), (⟨a2, 0⟩ : S28), (⟨a3, 0⟩ : S28), (⟨a4, 0⟩ : S28)] : List (S28))))
set_option maxHeartbeats 8000000 in
set_option maxRecDepth 100000 in
theorem imageeditorlaw15_mesh.calls (a0 : Int) (a1 : Int) (a2 : Int) (a3 : Int) (a4 : Int) (r1 : Int) (r2 : Int) (r3 : Int) (r4 : List (S28)) (w : World) (h : imageeditorlaw15_mesh.f a0 a1 a2 a3 a4 = some (r1, r2, r3, r4)) :
  Calls Try.prog 33 #[.int .i64 a0, .int .i64 a1, .int .i64 a2, .int .i64 a3, .int .i64 a4] w fun e w' => ∃ v3_ : Value, e = .returned (.agg #[.int .i64 r1, .int .i64 r2, .int .i64 r3, v3_]) ∧ Kd.R k28 28 w' w.heap.size (fun _ => True) v3_ r4 ∧ Below w.heap.size w w' := by
 have hu24 := Try.underlying24
 have hu28 := Try.underlying28
 have HB := Aside0.mk (Below.refl w.heap.size w)
 have H : (some (2, 2, a0, (([(⟨a1, 0⟩ : S28), (⟨a2, 0⟩ : S28), (⟨a3, 0⟩ : S28), (⟨a4, 0⟩ : S28)] : List (S28))))) = some (r1, r2, r3, r4) := h
 clear h
 obtain ⟨y397, hy397⟩ : ∃ y_ : List (S28), y_ = (([(⟨a1, 0⟩ : S28), (⟨a2, 0⟩ : S28), (⟨a3, 0⟩ : S28), (⟨a4, 0⟩ : S28)] : List (S28))) := ⟨_, rfl⟩
 replace H : (some (2, 2, a0, y397)) = some (r1, r2, r3, r4) := by first | (rw [hy397]; with_reducible exact H) | (have H2_ := (Option.bind_some _ _).symm.trans H; rw [hy397]; with_reducible exact H2_) | (have H2_ := (Option.bind_some _ _).symm.trans H; with_reducible exact H2_) | with_reducible exact H | (rw [hy397]; exact H) | exact H
 have Ny397 := Aside0.mk hy397
 clear hy397
 simp only [Option.some.injEq, Prod.mk.injEq] at H
 obtain ⟨rfl, rfl, rfl, rfl⟩ := H
 go_enter Try.func33, Try.ntmps33
 go_wp2_with (first | ((with_reducible refine gate_dst (N := 10) rfl ?_); refine box_event ?hg (N := 10) ?hd (cs := #[.int .i64 0, .int .i64 0, .int .i64 0, .slice none 0 0]) (t := 24) ?hr ?_; (case hd => rfl); (case hg => rfl); (case hr => first | (go_simp; done) | (go_simp; rfl)); intro E1 hg w6 hbox hb; have E3 := zg HB hg; have E2 := zg HB hg; have n0_ := Aside0.mk (hbox); replace HB := zb HB hb; have E0 := n0_; clear n0_; clear hb hbox hg) | ((with_reducible refine gate_dst (N := 20) rfl ?_); refine Kd.R_lit k28 _ 28 ?hg (N := 20) ?hd (xs := ([(⟨a1, 0⟩ : S28), (⟨a2, 0⟩ : S28), (⟨a3, 0⟩ : S28), (⟨a4, 0⟩ : S28)] : List (S28))) (inner := [.int .i64 a1, .int .i64 0, .int .i64 a2, .int .i64 0, .int .i64 a3, .int .i64 0, .int .i64 a4, .int .i64 0]) (ok := fun _ => True) (okp := fun _ => True) ?hr ?hp (fun _ hk => hk) trivial (Below.refl _ _) (Nat.le_refl _) (by simp) ?_; (case hd => rfl); (case hg => rfl); (case hr => first | (go_simp; done) | (go_simp; rfl)); (case hp => exact (Reps.c2 (show Kd.M k28 _ _ _ (⟨a1, 0⟩ : S28) [.int .i64 a1, .int .i64 0] from (k28_mkM _ _ _ (⟨a1, 0⟩ : S28) )) (Reps.c2 (show Kd.M k28 _ _ _ (⟨a2, 0⟩ : S28) [.int .i64 a2, .int .i64 0] from (k28_mkM _ _ _ (⟨a2, 0⟩ : S28) )) (Reps.c2 (show Kd.M k28 _ _ _ (⟨a3, 0⟩ : S28) [.int .i64 a3, .int .i64 0] from (k28_mkM _ _ _ (⟨a3, 0⟩ : S28) )) (Reps.c2 (show Kd.M k28 _ _ _ (⟨a4, 0⟩ : S28) [.int .i64 a4, .int .i64 0] from (k28_mkM _ _ _ (⟨a4, 0⟩ : S28) )) (Reps.none _ _)))))); intro v398 w7 ho8 hb hg_ hnew_; clear hg_ hnew_; (first | rw [← Ny397.out] at ho8 | (simp only [Int.reduceToNat] at ho8; rw [← Ny397.out] at ho8)); have HO399 := zl HB ho8; replace E0 := zk E0 hb; replace HB := zb HB hb; clear hb ho8; obtain ⟨Ao9, co9, eo9⟩ := Kd.R_slice HO399.out; subst eo9; obtain ⟨E4, E5, E6, E7, E8, E9, G0, G1⟩ := zq4 E0))
 refine bodyPost_ret (results_cell_row rfl _ _ E1 24 #[.int .i64 2, .int .i64 2, .int .i64 a0, .slice Ao9 y397.length co9] (0, 0) _ rfl (by exact zp E0 rfl) Try.underlying24 rfl (by kernel_rfl)) rfl ?_
 exact ⟨_, by first | rfl | (simp [errW_none, errW_some] <;> rfl) | (simp [*, errW_none, errW_some] <;> rfl), by exact zro HO399 E0 (by decide), by exact zbo HB E2⟩

/-! ### imageeditorlaw15_awake: function 16 -/
def imageeditorlaw15_awake.f (k : Nat)  : Option (Bool) := (imageeditorlaw15_mesh.f 1 0 0 0 0).bind fun E8 => ((some (([(⟨0, 0, 0, 65535⟩ : S48), (⟨100, 0, 0, 65535⟩ : S48)] : List (S48)) : List (S48))).bind fun y407 => ((imageeditorlaw15_mesh.f 1 32768 32768 32768 32768).bind fun G3 => ((warp_Draw.f k 2 1 y407 0 0 0 0 2 1 G3.1 G3.2.1 G3.2.2.1 G3.2.2.2 1 0 0 2 1).bind fun E5 => ((warp_Needs.f k E8.1 E8.2.1 E8.2.2.1 E8.2.2.2 0 0 0 1 1 0 0 9 9).bind fun G2 => ((warp_Draw.f k 2 1 y407 0 0 0 0 9 9 E8.1 E8.2.1 E8.2.2.1 E8.2.2.2 0 0 0 1 1).bind fun V8 => ((warp_Check.f k E8.1 E8.2.1 E8.2.2.1 E8.2.2.2).bind fun t438 => (if t438 = 0 then ((warp_Check.f k 2 2 1 ([] : List (S28))).bind fun t439 => (if t439 = 15 then ((imageeditorlaw15_mesh.f 1 1048577 0 0 0).bind fun G4 => ((warp_Check.f k G4.1 G4.2.1 G4.2.2.1 G4.2.2.2).bind fun t446 => (if t446 = 2 then ((imageeditorlaw15_mesh.f 4 0 8 0 8).bind fun G5 => ((warp_At.f k G5.1 G5.2.1 G5.2.2.1 G5.2.2.2 1 3).bind fun V4 => (if (V4.1 == 2 && (V4.2 == 0)) = true then ((imageeditorlaw15_mesh.f 2 0 1 0 1).bind fun G6 => ((warp_At.f k G6.1 G6.2.1 G6.2.2.1 G6.2.2.2 1 0).bind fun V5 => (if (V5.1 == 1 && (V5.2 == 0)) = true then ((imageeditorlaw15_mesh.f 1 65537 0 0 0).bind fun G7 => ((warp_Reach.f k G7.1 G7.2.1 G7.2.2.1 G7.2.2.2).bind fun t469 => (if t469 = 2 then (if (G2.1 == 0 && (G2.2.1 == 0 && (G2.2.2.1 == 3 && (G2.2.2.2.1 == 3)))) = true then (if G2.2.2.2.2 = 0 then (if V8.2.2.2 = 15 then (if E5.2.2.2 = 0 then (if (E5.2.2.1.length : Int) = 2 then (if E5.1 = 2 then (if E5.2.1 = 1 then (if 0 < (E5.2.2.1.length : Int) then (if (((rd_T48 E5.2.2.1 0).f0) == 50 && (((rd_T48 E5.2.2.1 0).f1) == 0 && (((rd_T48 E5.2.2.1 0).f2) == 0 && (((rd_T48 E5.2.2.1 0).f3) == 65535)))) = true then (if 1 < (E5.2.2.1.length : Int) then (some (((rd_T48 E5.2.2.1 1).f0) == 100 && (((rd_T48 E5.2.2.1 1).f1) == 0 && (((rd_T48 E5.2.2.1 1).f2) == 0 && (((rd_T48 E5.2.2.1 1).f3) == 65535))))) else (none)) else (some false)) else (none)) else (some false)) else (some false)) else (some false)) else (some false)) else (some false)) else (some false)) else (some false)) else (some false)))) else (some false)))) else (some false)))) else (some false)))) else (some false))) else (some false))))))))
theorem imageeditorlaw15_awake.mono : ∀ k, LeO (imageeditorlaw15_awake.f k ) (imageeditorlaw15_awake.f (k + 1) ) := by
 intro  k
 unfold imageeditorlaw15_awake.f
 repeat' first
   | (with_reducible exact warp_At.mono _ _ _ _ _ _ _)
   | (with_reducible exact warp_Check.mono _ _ _ _ _)
   | (with_reducible exact warp_Draw.mono _ _ _ _ _ _ _ _ _ _ _ _ _ _ _ _ _ _ _)
   | (with_reducible exact warp_Needs.mono _ _ _ _ _ _ _ _ _ _ _ _ _ _)
   | (with_reducible exact warp_Reach.mono _ _ _ _ _)
   | (with_reducible exact LeO.refl _)
   | (with_reducible exact LeO.none _)
   | (with_reducible refine LeO.ite ?_ ?_)
   | (with_reducible refine LeO.bind ?_ (fun _ => ?_))
   | exact warp_At.mono _ _ _ _ _ _ _
   | exact warp_Check.mono _ _ _ _ _
   | exact warp_Draw.mono _ _ _ _ _ _ _ _ _ _ _ _ _ _ _ _ _ _ _
   | exact warp_Needs.mono _ _ _ _ _ _ _ _ _ _ _ _ _ _
   | exact warp_Reach.mono _ _ _ _ _
   | exact LeO.none _
   | refine LeO.ite ?_ ?_
   | refine LeO.bind ?_ (fun _ => ?_)
def imageeditorlaw15_awake.T4 : Bool × List (List Nat × List Nat) := (true, [([], []), ([], []), ([], []), ([], []), ([], []), ([0, 1, 2, 3, 4, 3], [0, 1, 2, 3, 4]), ([5], [5]), ([6], [6]), ([6], [6]), ([], []), ([9, 7, 5, 0, 1, 2, 3, 4, 5, 6, 7, 9], [7, 9]), ([8, 10, 0, 1, 2, 3, 4, 5, 6, 7, 8, 9, 10], [8])])
def imageeditorlaw15_awake.B4 : List Nat := [0, 0, 0, 0, 0, 31, 63, 127, 127, 0, 767, 2047]
theorem imageeditorlaw15_awake.tab4 : rtab .any (opsOf Try.f16 4) = imageeditorlaw15_awake.T4 := by kernel_rfl
theorem imageeditorlaw15_awake.bits4 : waitsOk imageeditorlaw15_awake.T4.2 imageeditorlaw15_awake.B4 = true := by kernel_rfl
set_option maxHeartbeats 8000000 in
set_option maxRecDepth 100000 in
theorem imageeditorlaw15_awake.callsT (k : Nat)  (r : Bool) (w : World) (hT : r = true) (h : imageeditorlaw15_awake.f k  = some r) :
  Calls Try.prog 16 #[] w fun e w' => e = .returned (.bool r) ∧ Below w.heap.size w w' := by
 have hu24 := Try.underlying24
 have hu48 := Try.underlying48
 have hu40 := Try.underlying40
 have hu34 := Try.underlying34
 have hu28 := Try.underlying28
 have HT := Aside0.mk hT
 clear hT
 have HB := Aside0.mk (Below.refl w.heap.size w)
 have H : ((imageeditorlaw15_mesh.f 1 0 0 0 0).bind fun E8 => ((some (([(⟨0, 0, 0, 65535⟩ : S48), (⟨100, 0, 0, 65535⟩ : S48)] : List (S48)) : List (S48))).bind fun y407 => ((imageeditorlaw15_mesh.f 1 32768 32768 32768 32768).bind fun G3 => ((warp_Draw.f k 2 1 y407 0 0 0 0 2 1 G3.1 G3.2.1 G3.2.2.1 G3.2.2.2 1 0 0 2 1).bind fun E5 => ((warp_Needs.f k E8.1 E8.2.1 E8.2.2.1 E8.2.2.2 0 0 0 1 1 0 0 9 9).bind fun G2 => ((warp_Draw.f k 2 1 y407 0 0 0 0 9 9 E8.1 E8.2.1 E8.2.2.1 E8.2.2.2 0 0 0 1 1).bind fun V8 => ((warp_Check.f k E8.1 E8.2.1 E8.2.2.1 E8.2.2.2).bind fun t438 => (if t438 = 0 then ((warp_Check.f k 2 2 1 ([] : List (S28))).bind fun t439 => (if t439 = 15 then ((imageeditorlaw15_mesh.f 1 1048577 0 0 0).bind fun G4 => ((warp_Check.f k G4.1 G4.2.1 G4.2.2.1 G4.2.2.2).bind fun t446 => (if t446 = 2 then ((imageeditorlaw15_mesh.f 4 0 8 0 8).bind fun G5 => ((warp_At.f k G5.1 G5.2.1 G5.2.2.1 G5.2.2.2 1 3).bind fun V4 => (if (V4.1 == 2 && (V4.2 == 0)) = true then ((imageeditorlaw15_mesh.f 2 0 1 0 1).bind fun G6 => ((warp_At.f k G6.1 G6.2.1 G6.2.2.1 G6.2.2.2 1 0).bind fun V5 => (if (V5.1 == 1 && (V5.2 == 0)) = true then ((imageeditorlaw15_mesh.f 1 65537 0 0 0).bind fun G7 => ((warp_Reach.f k G7.1 G7.2.1 G7.2.2.1 G7.2.2.2).bind fun t469 => (if t469 = 2 then (if (G2.1 == 0 && (G2.2.1 == 0 && (G2.2.2.1 == 3 && (G2.2.2.2.1 == 3)))) = true then (if G2.2.2.2.2 = 0 then (if V8.2.2.2 = 15 then (if E5.2.2.2 = 0 then (if (E5.2.2.1.length : Int) = 2 then (if E5.1 = 2 then (if E5.2.1 = 1 then (if 0 < (E5.2.2.1.length : Int) then (if (((rd_T48 E5.2.2.1 0).f0) == 50 && (((rd_T48 E5.2.2.1 0).f1) == 0 && (((rd_T48 E5.2.2.1 0).f2) == 0 && (((rd_T48 E5.2.2.1 0).f3) == 65535)))) = true then (if 1 < (E5.2.2.1.length : Int) then (some (((rd_T48 E5.2.2.1 1).f0) == 100 && (((rd_T48 E5.2.2.1 1).f1) == 0 && (((rd_T48 E5.2.2.1 1).f2) == 0 && (((rd_T48 E5.2.2.1 1).f3) == 65535))))) else (none)) else (some false)) else (none)) else (some false)) else (some false)) else (some false)) else (some false)) else (some false)) else (some false)) else (some false)) else (some false)))) else (some false)))) else (some false)))) else (some false)))) else (some false))) else (some false))))))))) = some r := h
 clear h
 replace H := Option.bind_eq_some_iff.mp H
 obtain ⟨⟨t400, t401, t402, t403⟩, A10, H⟩ := H
 try dsimp only at H
 have A1 := Aside0.mk A10
 clear A10
 obtain ⟨y407, hy407⟩ : ∃ y_ : List (S48), y_ = (([(⟨0, 0, 0, 65535⟩ : S48), (⟨100, 0, 0, 65535⟩ : S48)] : List (S48))) := ⟨_, rfl⟩
 replace H : ((imageeditorlaw15_mesh.f 1 32768 32768 32768 32768).bind fun G3 => ((warp_Draw.f k 2 1 y407 0 0 0 0 2 1 G3.1 G3.2.1 G3.2.2.1 G3.2.2.2 1 0 0 2 1).bind fun E5 => ((warp_Needs.f k t400 t401 t402 t403 0 0 0 1 1 0 0 9 9).bind fun G2 => ((warp_Draw.f k 2 1 y407 0 0 0 0 9 9 t400 t401 t402 t403 0 0 0 1 1).bind fun V8 => ((warp_Check.f k t400 t401 t402 t403).bind fun t438 => (if t438 = 0 then ((warp_Check.f k 2 2 1 ([] : List (S28))).bind fun t439 => (if t439 = 15 then ((imageeditorlaw15_mesh.f 1 1048577 0 0 0).bind fun G4 => ((warp_Check.f k G4.1 G4.2.1 G4.2.2.1 G4.2.2.2).bind fun t446 => (if t446 = 2 then ((imageeditorlaw15_mesh.f 4 0 8 0 8).bind fun G5 => ((warp_At.f k G5.1 G5.2.1 G5.2.2.1 G5.2.2.2 1 3).bind fun V4 => (if (V4.1 == 2 && (V4.2 == 0)) = true then ((imageeditorlaw15_mesh.f 2 0 1 0 1).bind fun G6 => ((warp_At.f k G6.1 G6.2.1 G6.2.2.1 G6.2.2.2 1 0).bind fun V5 => (if (V5.1 == 1 && (V5.2 == 0)) = true then ((imageeditorlaw15_mesh.f 1 65537 0 0 0).bind fun G7 => ((warp_Reach.f k G7.1 G7.2.1 G7.2.2.1 G7.2.2.2).bind fun t469 => (if t469 = 2 then (if (G2.1 == 0 && (G2.2.1 == 0 && (G2.2.2.1 == 3 && (G2.2.2.2.1 == 3)))) = true then (if G2.2.2.2.2 = 0 then (if V8.2.2.2 = 15 then (if E5.2.2.2 = 0 then (if (E5.2.2.1.length : Int) = 2 then (if E5.1 = 2 then (if E5.2.1 = 1 then (if 0 < (E5.2.2.1.length : Int) then (if (((rd_T48 E5.2.2.1 0).f0) == 50 && (((rd_T48 E5.2.2.1 0).f1) == 0 && (((rd_T48 E5.2.2.1 0).f2) == 0 && (((rd_T48 E5.2.2.1 0).f3) == 65535)))) = true then (if 1 < (E5.2.2.1.length : Int) then (some (((rd_T48 E5.2.2.1 1).f0) == 100 && (((rd_T48 E5.2.2.1 1).f1) == 0 && (((rd_T48 E5.2.2.1 1).f2) == 0 && (((rd_T48 E5.2.2.1 1).f3) == 65535))))) else (none)) else (some false)) else (none)) else (some false)) else (some false)) else (some false)) else (some false)) else (some false)) else (some false)) else (some false)) else (some false)))) else (some false)))) else (some false)))) else (some false)))) else (some false))) else (some false))))))) = some r := by first | (rw [hy407]; with_reducible exact H) | (have H2_ := (Option.bind_some _ _).symm.trans H; rw [hy407]; with_reducible exact H2_) | (have H2_ := (Option.bind_some _ _).symm.trans H; with_reducible exact H2_) | with_reducible exact H | (rw [hy407]; exact H) | exact H
 have Ny407 := Aside0.mk hy407
 clear hy407
 replace H := Option.bind_eq_some_iff.mp H
 obtain ⟨⟨t412, t413, t414, t415⟩, A20, H⟩ := H
 try dsimp only at H
 have A2 := Aside0.mk A20
 clear A20
 replace H := Option.bind_eq_some_iff.mp H
 obtain ⟨⟨t418, t419, t420, t423⟩, A30, H⟩ := H
 try dsimp only at H
 have A3 := Aside0.mk A30
 clear A30
 replace H := Option.bind_eq_some_iff.mp H
 obtain ⟨⟨t425, t426, t427, t428, t429⟩, A40, H⟩ := H
 try dsimp only at H
 have A4 := Aside0.mk A40
 clear A40
 replace H := Option.bind_eq_some_iff.mp H
 obtain ⟨⟨t431, t432, t433, t436⟩, A50, H⟩ := H
 try dsimp only at H
 have A5 := Aside0.mk A50
 clear A50
 replace H := Option.bind_eq_some_iff.mp H
 obtain ⟨t438, A60, H⟩ := H
 try dsimp only at H
 have A6 := Aside0.mk A60
 clear A60
 by_cases c7 : t438 = 0
 rotate_left
 ·rw [if_neg c7] at H
  have Z9 : (t438 == 0) = false := beq_eq_false_iff_ne.mpr c7
  have J0 : (t438 != 0) = true := bne_iff_ne.mpr c7
  exact absurd HT.out (by rw [← Option.some.inj H]; decide)
 rw [if_pos c7] at H
 have Z9 : (t438 == 0) = true := beq_iff_eq.mpr c7
 have J0 : (t438 != 0) = false := bne_eq_false_iff_eq.mpr c7
 clear c7
 replace H := Option.bind_eq_some_iff.mp H
 obtain ⟨t439, A80, H⟩ := H
 try dsimp only at H
 have A8 := Aside0.mk A80
 clear A80
 by_cases c9 : t439 = 15
 rotate_left
 ·rw [if_neg c9] at H
  have J1 : (t439 == 15) = false := beq_eq_false_iff_ne.mpr c9
  have J2 : (t439 != 15) = true := bne_iff_ne.mpr c9
  exact absurd HT.out (by rw [← Option.some.inj H]; decide)
 rw [if_pos c9] at H
 have J1 : (t439 == 15) = true := beq_iff_eq.mpr c9
 have J2 : (t439 != 15) = false := bne_eq_false_iff_eq.mpr c9
 clear c9
 replace H := Option.bind_eq_some_iff.mp H
 obtain ⟨⟨t440, t441, t442, t443⟩, A100, H⟩ := H
 try dsimp only at H
 have A10 := Aside0.mk A100
 clear A100
 replace H := Option.bind_eq_some_iff.mp H
 obtain ⟨t446, A110, H⟩ := H
 try dsimp only at H
 have A11 := Aside0.mk A110
 clear A110
 by_cases c12 : t446 = 2
 rotate_left
 ·rw [if_neg c12] at H
  have J3 : (t446 == 2) = false := beq_eq_false_iff_ne.mpr c12
  have J4 : (t446 != 2) = true := bne_iff_ne.mpr c12
  exact absurd HT.out (by rw [← Option.some.inj H]; decide)
 rw [if_pos c12] at H
 have J3 : (t446 == 2) = true := beq_iff_eq.mpr c12
 have J4 : (t446 != 2) = false := bne_eq_false_iff_eq.mpr c12
 clear c12
 replace H := Option.bind_eq_some_iff.mp H
 obtain ⟨⟨t447, t448, t449, t450⟩, A130, H⟩ := H
 try dsimp only at H
 have A13 := Aside0.mk A130
 clear A130
 replace H := Option.bind_eq_some_iff.mp H
 obtain ⟨⟨t453, t454⟩, A140, H⟩ := H
 try dsimp only at H
 have A14 := Aside0.mk A140
 clear A140
 by_cases c15 : (t453 == 2 && (t454 == 0)) = true
 rotate_left
 ·rw [if_neg c15] at H
  have J5 : (t453 == 2 && (t454 == 0)) = false := by simpa using c15
  (try (have J6 : decide (t453 = 2 && (t454 == 0)) = false := by simpa using c15))
  (try (have J7 : (t453 == 2 && (t454 == 0)) = false := by simpa using c15))
  (try (have E0q : ¬ (t453 = 2 && (t454 == 0)) := by simpa using c15))
  clear c15
  exact absurd HT.out (by rw [← Option.some.inj H]; decide)
 rw [if_pos c15] at H
 have J5 : (t453 == 2 && (t454 == 0)) = true := c15
 (try (have J6 : decide (t453 = 2 && (t454 == 0)) = true := by simpa using c15))
 (try (have J7 : (t453 == 2 && (t454 == 0)) = true := by simpa using c15))
 clear c15
 replace H := Option.bind_eq_some_iff.mp H
 obtain ⟨⟨t455, t456, t457, t458⟩, A160, H⟩ := H
 try dsimp only at H
 have A16 := Aside0.mk A160
 clear A160
 replace H := Option.bind_eq_some_iff.mp H
 obtain ⟨⟨t461, t462⟩, A170, H⟩ := H
 try dsimp only at H
 have A17 := Aside0.mk A170
 clear A170
 by_cases c18 : (t461 == 1 && (t462 == 0)) = true
 rotate_left
 ·rw [if_neg c18] at H
  have J8 : (t461 == 1 && (t462 == 0)) = false := by simpa using c18
  (try (have J9 : decide (t461 = 1 && (t462 == 0)) = false := by simpa using c18))
  (try (have L0 : (t461 == 1 && (t462 == 0)) = false := by simpa using c18))
  (try (have E0r : ¬ (t461 = 1 && (t462 == 0)) := by simpa using c18))
  clear c18
  exact absurd HT.out (by rw [← Option.some.inj H]; decide)
 rw [if_pos c18] at H
 have J8 : (t461 == 1 && (t462 == 0)) = true := c18
 (try (have J9 : decide (t461 = 1 && (t462 == 0)) = true := by simpa using c18))
 (try (have L0 : (t461 == 1 && (t462 == 0)) = true := by simpa using c18))
 clear c18
 replace H := Option.bind_eq_some_iff.mp H
 obtain ⟨⟨t463, t464, t465, t466⟩, A190, H⟩ := H
 try dsimp only at H
 have A19 := Aside0.mk A190
 clear A190
 replace H := Option.bind_eq_some_iff.mp H
 obtain ⟨t469, A200, H⟩ := H
 try dsimp only at H
 have A20 := Aside0.mk A200
 clear A200
 by_cases c21 : t469 = 2
 rotate_left
 ·rw [if_neg c21] at H
  have L1 : (t469 == 2) = false := beq_eq_false_iff_ne.mpr c21
  have L2 : (t469 != 2) = true := bne_iff_ne.mpr c21
  exact absurd HT.out (by rw [← Option.some.inj H]; decide)
 rw [if_pos c21] at H
 have L1 : (t469 == 2) = true := beq_iff_eq.mpr c21
 have L2 : (t469 != 2) = false := bne_eq_false_iff_eq.mpr c21
 clear c21
 by_cases c22 : (t425 == 0 && (t426 == 0 && (t427 == 3 && (t428 == 3)))) = true
 rotate_left
 ·rw [if_neg c22] at H
  have L3 : (t425 == 0 && (t426 == 0 && (t427 == 3 && (t428 == 3)))) = false := by simpa using c22
  (try (have L4 : decide (t425 = 0 && (t426 == 0 && (t427 == 3 && (t428 == 3)))) = false := by simpa using c22))
  (try (have L5 : (t425 == 0 && (t426 == 0 && (t427 == 3 && (t428 == 3)))) = false := by simpa using c22))
  (try (have E0s : ¬ (t425 = 0 && (t426 == 0 && (t427 == 3 && (t428 == 3)))) := by simpa using c22))
  clear c22
  exact absurd HT.out (by rw [← Option.some.inj H]; decide)
 rw [if_pos c22] at H
 have L3 : (t425 == 0 && (t426 == 0 && (t427 == 3 && (t428 == 3)))) = true := c22
 (try (have L4 : decide (t425 = 0 && (t426 == 0 && (t427 == 3 && (t428 == 3)))) = true := by simpa using c22))
 (try (have L5 : (t425 == 0 && (t426 == 0 && (t427 == 3 && (t428 == 3)))) = true := by simpa using c22))
 clear c22
 by_cases c23 : t429 = 0
 rotate_left
 ·rw [if_neg c23] at H
  have L6 : (t429 == 0) = false := beq_eq_false_iff_ne.mpr c23
  have L7 : (t429 != 0) = true := bne_iff_ne.mpr c23
  exact absurd HT.out (by rw [← Option.some.inj H]; decide)
 rw [if_pos c23] at H
 have L6 : (t429 == 0) = true := beq_iff_eq.mpr c23
 have L7 : (t429 != 0) = false := bne_eq_false_iff_eq.mpr c23
 clear c23
 by_cases c24 : t436 = 15
 rotate_left
 ·rw [if_neg c24] at H
  have L8 : (t436 == 15) = false := beq_eq_false_iff_ne.mpr c24
  have L9 : (t436 != 15) = true := bne_iff_ne.mpr c24
  exact absurd HT.out (by rw [← Option.some.inj H]; decide)
 rw [if_pos c24] at H
 have L8 : (t436 == 15) = true := beq_iff_eq.mpr c24
 have L9 : (t436 != 15) = false := bne_eq_false_iff_eq.mpr c24
 clear c24
 by_cases c25 : t423 = 0
 rotate_left
 ·rw [if_neg c25] at H
  have Q0 : (t423 == 0) = false := beq_eq_false_iff_ne.mpr c25
  have Q1 : (t423 != 0) = true := bne_iff_ne.mpr c25
  exact absurd HT.out (by rw [← Option.some.inj H]; decide)
 rw [if_pos c25] at H
 have Q0 : (t423 == 0) = true := beq_iff_eq.mpr c25
 have Q1 : (t423 != 0) = false := bne_eq_false_iff_eq.mpr c25
 clear c25
 by_cases c26 : (t420.length : Int) = 2
 rotate_left
 ·rw [if_neg c26] at H
  have Q2 : ((t420.length : Int) == 2) = false := beq_eq_false_iff_ne.mpr c26
  have Q3 : ((t420.length : Int) != 2) = true := bne_iff_ne.mpr c26
  exact absurd HT.out (by rw [← Option.some.inj H]; decide)
 rw [if_pos c26] at H
 have Q2 : ((t420.length : Int) == 2) = true := beq_iff_eq.mpr c26
 have Q3 : ((t420.length : Int) != 2) = false := bne_eq_false_iff_eq.mpr c26
 clear c26
 by_cases c27 : t418 = 2
 rotate_left
 ·rw [if_neg c27] at H
  have Q4 : (t418 == 2) = false := beq_eq_false_iff_ne.mpr c27
  have Q5 : (t418 != 2) = true := bne_iff_ne.mpr c27
  exact absurd HT.out (by rw [← Option.some.inj H]; decide)
 rw [if_pos c27] at H
 have Q4 : (t418 == 2) = true := beq_iff_eq.mpr c27
 have Q5 : (t418 != 2) = false := bne_eq_false_iff_eq.mpr c27
 clear c27
 by_cases c28 : t419 = 1
 rotate_left
 ·rw [if_neg c28] at H
  have Q6 : (t419 == 1) = false := beq_eq_false_iff_ne.mpr c28
  have Q7 : (t419 != 1) = true := bne_iff_ne.mpr c28
  exact absurd HT.out (by rw [← Option.some.inj H]; decide)
 rw [if_pos c28] at H
 have Q6 : (t419 == 1) = true := beq_iff_eq.mpr c28
 have Q7 : (t419 != 1) = false := bne_eq_false_iff_eq.mpr c28
 clear c28
 by_cases c29 : 0 < (t420.length : Int)
 rotate_left
 ·rw [if_neg c29] at H
  exact absurd H (by simp)
 rw [if_pos c29] at H
 have E0t : decide (0 < (t420.length : Int)) = true := decide_eq_true c29
 have E0u : decide (0 < t420.length) = true := decide_eq_true (by omega)
 clear c29
 by_cases c30 : (((rd_T48 t420 0).f0) == 50 && (((rd_T48 t420 0).f1) == 0 && (((rd_T48 t420 0).f2) == 0 && (((rd_T48 t420 0).f3) == 65535)))) = true
 rotate_left
 ·rw [if_neg c30] at H
  have Q8 : (((rd_T48 t420 0).f0) == 50 && (((rd_T48 t420 0).f1) == 0 && (((rd_T48 t420 0).f2) == 0 && (((rd_T48 t420 0).f3) == 65535)))) = false := by simpa using c30
  (try (have Q9 : decide (((rd_T48 t420 0).f0) = 50 && (((rd_T48 t420 0).f1) == 0 && (((rd_T48 t420 0).f2) == 0 && (((rd_T48 t420 0).f3) == 65535)))) = false := by simpa using c30))
  (try (have E0a : (((rd_T48 t420 0).f0) == 50 && (((rd_T48 t420 0).f1) == 0 && (((rd_T48 t420 0).f2) == 0 && (((rd_T48 t420 0).f3) == 65535)))) = false := by simpa using c30))
  (try (have E0v : ¬ (((rd_T48 t420 0).f0) = 50 && (((rd_T48 t420 0).f1) == 0 && (((rd_T48 t420 0).f2) == 0 && (((rd_T48 t420 0).f3) == 65535)))) := by simpa using c30))
  clear c30
  exact absurd HT.out (by rw [← Option.some.inj H]; decide)
 rw [if_pos c30] at H
 have Q8 : (((rd_T48 t420 0).f0) == 50 && (((rd_T48 t420 0).f1) == 0 && (((rd_T48 t420 0).f2) == 0 && (((rd_T48 t420 0).f3) == 65535)))) = true := c30
 (try (have Q9 : decide (((rd_T48 t420 0).f0) = 50 && (((rd_T48 t420 0).f1) == 0 && (((rd_T48 t420 0).f2) == 0 && (((rd_T48 t420 0).f3) == 65535)))) = true := by simpa using c30))
 (try (have E0a : (((rd_T48 t420 0).f0) == 50 && (((rd_T48 t420 0).f1) == 0 && (((rd_T48 t420 0).f2) == 0 && (((rd_T48 t420 0).f3) == 65535)))) = true := by simpa using c30))
 clear c30
 by_cases c31 : 1 < (t420.length : Int)
 rotate_left
 ·rw [if_neg c31] at H
  exact absurd H (by simp)
 rw [if_pos c31] at H
 have E0w : decide (1 < (t420.length : Int)) = true := decide_eq_true c31
 have E0x : decide (1 < t420.length) = true := decide_eq_true (by omega)
 clear c31
 obtain rfl := Option.some.inj H
 go_enter Try.func16, Try.ntmps16
 dsimp only [List.append]
 try go_wp2_with (first | ((with_reducible refine gate_callee (f := 33) rfl ?_); refine goesL_ (some 10) rfl rfl Try.func33 (by kernel_rfl) rfl #[.int .i64 1, .int .i64 0, .int .i64 0, .int .i64 0, .int .i64 0] rfl (by (try simp only [List.map_toArray, List.map_cons, List.map_nil]); first | done | rfl | (simp only [List.length_drop, List.length_take]; rfl)) ?_; (with_reducible refine (imageeditorlaw15_mesh.calls 1 0 0 0 0 t400 t401 t402 t403 _ A1.out).mono ?_); rintro e w32 ⟨v404, rfl, ho0, hb⟩; refine ⟨_, rfl, ?_⟩; have HO405 := zl HB ho0; replace HB := zb HB hb; (try clear hb); (try clear hk); (try clear ho0)) | ((with_reducible refine gate_dst (N := 1) rfl ?_); (try (refine gate_guard (by rfl) ?_; dsimp only)); refine box_event ?hg (N := 1) ?hd (cs := #[.int .i64 0, .int .i64 0, .int .i64 0, .slice none 0 0]) (t := 24) ?hr ?_; (case hd => rfl); (case hg => rfl); (case hr => first | (go_simp; done) | (go_simp; rfl)); intro G9 hg w33 hbox hb; have E0y := zg HB hg; have Y9 := zg HB hg; have n0_ := Aside0.mk (hbox); replace HO405 := zr HO405 hb; replace HB := zb HB hb; have E2 := n0_; clear n0_; clear hb hbox hg; obtain ⟨E0z, E0A, E0B, E0C, E0D, E0E, E0F, E0G⟩ := zq4 E2; obtain ⟨Ao35, co35, eo35⟩ := Kd.R_slice HO405.out; subst eo35) | ((with_reducible refine gate_dst (N := 13) rfl ?_); (try (refine gate_guard (by rfl) ?_; dsimp only)); refine Kd.R_lit k48 _ 48 ?hg (N := 13) ?hd (xs := ([(⟨0, 0, 0, 65535⟩ : S48), (⟨100, 0, 0, 65535⟩ : S48)] : List (S48))) (inner := [.int .i64 0, .int .i64 0, .int .i64 0, .int .i64 65535, .int .i64 100, .int .i64 0, .int .i64 0, .int .i64 65535]) (ok := fun _ => True) (okp := fun _ => True) ?hr ?hp (fun _ hk => hk) trivial (Below.refl _ _) (Nat.le_refl _) (by simp) ?_; (case hd => rfl); (case hg => rfl); (case hr => first | (go_simp; done) | (go_simp; rfl)); (case hp => exact (Reps.c4 (show Kd.M k48 _ _ _ (⟨0, 0, 0, 65535⟩ : S48) [.int .i64 0, .int .i64 0, .int .i64 0, .int .i64 65535] from (k48_mkM _ _ _ (⟨0, 0, 0, 65535⟩ : S48) )) (Reps.c4 (show Kd.M k48 _ _ _ (⟨100, 0, 0, 65535⟩ : S48) [.int .i64 100, .int .i64 0, .int .i64 0, .int .i64 65535] from (k48_mkM _ _ _ (⟨100, 0, 0, 65535⟩ : S48) )) (Reps.none _ _)))); intro v408 w36 ho37 hb hg_ hnew_; clear hg_ hnew_; (first | rw [← Ny407.out] at ho37 | (simp only [Int.reduceToNat] at ho37; rw [← Ny407.out] at ho37)); have n0_ := Aside0.mk (Kd.R_below (by exact zro HO405 E2 (by decide)) hb); have n1_ := Aside0.mk (Kd.R_lower ho37 (below_size (by exact zbo HB Y9))); have n2_ := Aside0.mk (blk_below (g := G9) (o := .cells #[.int .i64 t400, .int .i64 t401, .int .i64 t402, .slice Ao35 t403.length co35] 24 (0, 0)) (by exact zp E2 rfl) hb); have n3_ := Aside0.mk (below_step (by exact zbo HB Y9) hb); clear HO405; clear E2; clear HB; have HO405 := n0_; have HO409 := n1_; have E2 := n2_; have HB := n3_; clear n0_ n1_ n2_ n3_; clear hb ho37; obtain ⟨Ao38, co38, eo38⟩ := Kd.R_slice HO409.out; subst eo38) | ((with_reducible refine gate_dst (N := 2) rfl ?_); (try (refine gate_guard (by rfl) ?_; dsimp only)); refine box_event ?hg (N := 2) ?hd (cs := #[.int .i64 0, .int .i64 0, .slice none 0 0]) (t := 40) ?hr ?_; (case hd => rfl); (case hg => rfl); (case hr => first | (go_simp; done) | (go_simp; rfl)); intro G0 hg w39 hbox hb; have E0H := zg HB hg; have Y0 := zg HB hg; have V9 := zn E2 hg; have E0b := zn' E2 hg; have n0_ := Aside0.mk (hbox); replace HO405 := zr HO405 hb; replace HO409 := zr HO409 hb; replace E2 := zk E2 hb; replace HB := zb HB hb; have E0 := n0_; clear n0_; clear hb hbox hg; have E0I := E0b.out; have E0J := V9.out; obtain ⟨E0K, E0L, E0M, E0N, E0O, E0P⟩ := zq3 E0) | ((with_reducible refine gate_dst (N := 3) rfl ?_); (try (refine gate_guard (by rfl) ?_; dsimp only)); refine box_event ?hg (N := 3) ?hd (cs := #[.int .i64 0, .int .i64 0, .int .i64 0, .int .i64 0]) (t := 34) ?hr ?_; (case hd => rfl); (case hg => rfl); (case hr => first | (go_simp; done) | (go_simp; rfl)); intro E4 hg w42 hbox hb; have n0_ := Aside0.mk (Kd.R_below (by exact zro HO405 E0 (by decide)) hb); have n1_ := Aside0.mk (Kd.R_below (by exact zro HO409 E0 (by decide)) hb); have n2_ := Aside0.mk (blk_below (g := G0) (o := .cells #[.int .i64 2, .int .i64 1, .slice Ao38 y407.length co38] 40 (0, 0)) (by exact zp E0 rfl) hb); have n3_ := Aside0.mk (below_step (by exact zbo HB Y0) hb); have n4_ := Aside0.mk (hbox); have n5_ := Aside0.mk ((by rw [hg]; exact (below_size (by exact zbo HB Y0)) : w.heap.size ≤ E4)); have n6_ := Aside0.mk ((by rw [hg]; exact (below_size (by exact zbo HB Y0)) : w.heap.size ≤ E4)); have n7_ := Aside0.mk ((by rw [hg]; exact Nat.ne_of_lt (blk_lt (zf E2 V9)) : G9 ≠ E4)); have n8_ := Aside0.mk ((by rw [hg]; exact Nat.ne_of_gt (blk_lt (zf E2 V9)) : E4 ≠ G9)); have n9_ := Aside0.mk ((by rw [hg]; exact Nat.ne_of_lt (blk_lt (g := G0) (o := .cells #[.int .i64 2, .int .i64 1, .slice Ao38 y407.length co38] 40 (0, 0)) (by exact zp E0 rfl)) : G0 ≠ E4)); have n10_ := Aside0.mk ((by rw [hg]; exact Nat.ne_of_gt (blk_lt (g := G0) (o := .cells #[.int .i64 2, .int .i64 1, .slice Ao38 y407.length co38] 40 (0, 0)) (by exact zp E0 rfl)) : E4 ≠ G0)); replace E2 := zfk E2 V9 hb; clear HO405; clear HO409; clear E0; clear HB; have HO405 := n0_; have HO409 := n1_; have E0 := n2_; have HB := n3_; have E1 := n4_; have E0Q := n5_; have E0c := n6_; have Z0 := n7_; have E0d := n8_; have Z1 := n9_; have E0e := n10_; clear n0_ n1_ n2_ n3_ n4_ n5_ n6_ n7_ n8_ n9_ n10_; clear hb hbox hg; have E0R := E0d.out; have E0S := Z0.out; have E0T := E0e.out; have E0U := Z1.out; obtain ⟨E0V, E0W, E0X, E0Y, E0Z, E1a, E1b, E1c⟩ := zq4 E1))
 have n0_ : Aside0 (Kd.R k28 28 ((((w42.setCell ⟨E4, 0, none⟩ (.int .i64 0)).setCell ⟨E4, 1, none⟩ (.int .i64 0)).setCell ⟨E4, 2, none⟩ (.int .i64 2)).setCell ⟨E4, 3, none⟩ (.int .i64 1)) w.heap.size (fun _ => True) (.slice Ao35 t403.length co35) t403) := ⟨by exact zro HO405 E1 (by decide)⟩
 have n1_ : Aside0 (Kd.R k48 48 ((((w42.setCell ⟨E4, 0, none⟩ (.int .i64 0)).setCell ⟨E4, 1, none⟩ (.int .i64 0)).setCell ⟨E4, 2, none⟩ (.int .i64 2)).setCell ⟨E4, 3, none⟩ (.int .i64 1)) w.heap.size (fun _ => True) (.slice Ao38 y407.length co38) y407) := ⟨by exact zro HO409 E1 (by decide)⟩
 have n2_ : Aside0 (((((w42.setCell ⟨E4, 0, none⟩ (.int .i64 0)).setCell ⟨E4, 1, none⟩ (.int .i64 0)).setCell ⟨E4, 2, none⟩ (.int .i64 2)).setCell ⟨E4, 3, none⟩ (.int .i64 1)).heap[G9]? = some (.cells #[.int .i64 t400, .int .i64 t401, .int .i64 t402, .slice Ao35 t403.length co35] 24 (0, 0))) := ⟨by exact zf E2 Z0⟩
 have n3_ : Aside0 (((((w42.setCell ⟨E4, 0, none⟩ (.int .i64 0)).setCell ⟨E4, 1, none⟩ (.int .i64 0)).setCell ⟨E4, 2, none⟩ (.int .i64 2)).setCell ⟨E4, 3, none⟩ (.int .i64 1)).heap[G0]? = some (.cells #[.int .i64 2, .int .i64 1, .slice Ao38 y407.length co38] 40 (0, 0))) := ⟨by exact zf E0 Z1⟩
 have n4_ : Aside0 (((((w42.setCell ⟨E4, 0, none⟩ (.int .i64 0)).setCell ⟨E4, 1, none⟩ (.int .i64 0)).setCell ⟨E4, 2, none⟩ (.int .i64 2)).setCell ⟨E4, 3, none⟩ (.int .i64 1)).heap[E4]? = some (.cells #[.int .i64 0, .int .i64 0, .int .i64 2, .int .i64 1] 34 (0, 0))) := ⟨by exact zp E1 rfl⟩
 have n5_ : Aside0 (Below w.heap.size w ((((w42.setCell ⟨E4, 0, none⟩ (.int .i64 0)).setCell ⟨E4, 1, none⟩ (.int .i64 0)).setCell ⟨E4, 2, none⟩ (.int .i64 2)).setCell ⟨E4, 3, none⟩ (.int .i64 1))) := ⟨by exact zbo HB E0c⟩
 (try clear HO405)
 (try clear HO409)
 (try clear E2)
 (try clear E0)
 (try clear E1)
 (try clear HB)
 generalize ((((w42.setCell ⟨E4, 0, none⟩ (.int .i64 0)).setCell ⟨E4, 1, none⟩ (.int .i64 0)).setCell ⟨E4, 2, none⟩ (.int .i64 2)).setCell ⟨E4, 3, none⟩ (.int .i64 1)) = w46 at n0_ n1_ n2_ n3_ n4_ n5_ ⊢
 have HO405 := n0_
 have HO409 := n1_
 have E2 := n2_
 have E0 := n3_
 have E1 := n4_
 have HB := n5_
 clear n0_ n1_ n2_ n3_ n4_ n5_
 replace HO405 := zrd HO405
 replace HO409 := zrd HO409
 replace E2 := zkd E2
 replace E0 := zkd E0
 replace E1 := zkd E1
 replace HB := zbd HB
 refine start_ (n := 12) (S := fun w' => w'.cell? ⟨G0, 0, none⟩ = some (.int .i64 2) ∧ w'.cell? ⟨G0, 1, none⟩ = some (.int .i64 1) ∧ w'.cell? ⟨G0, 2, none⟩ = some (.slice Ao38 y407.length co38) ∧ w'.cell? ⟨E4, 0, none⟩ = some (.int .i64 0) ∧ w'.cell? ⟨E4, 1, none⟩ = some (.int .i64 0) ∧ w'.cell? ⟨E4, 2, none⟩ = some (.int .i64 2) ∧ w'.cell? ⟨E4, 3, none⟩ = some (.int .i64 1)) (ds := []) (bs 12 0) (by kernel_rfl) rfl rfl ⟨(blk_cell E0.out 0).trans rfl, (blk_cell E0.out 1).trans rfl, (blk_cell E0.out 2).trans rfl, (blk_cell E1.out 0).trans rfl, (blk_cell E1.out 1).trans rfl, (blk_cell E1.out 2).trans rfl, (blk_cell E1.out 3).trans rfl⟩ (fun hHeld => ?_); refine with_tabW imageeditorlaw15_awake.tab4 imageeditorlaw15_awake.bits4 (fun HT_ HW_ => ?_)
 generalize w46.drew = w47 at HO405 HO409 E2 E0 E1 HB HO405 HO409 hHeld ⊢
 refine pure_ (i := 1) (N := some 18) (v := ?_) (a' := ?_) (bs 12 2) rfl rfl (any_of HT_.out (by kernel_rfl)) (fun _ _ _ h => h) (Or.inl ⟨by rfl, ?_⟩) ?_ ?_
 rotate_left
 ·intro w'
  go_simp
  with_reducible rfl
 rotate_left
 ·simp only [Act.put, sA, sB, sC, i64_w, i32_w]
  rfl
 refine take_ (i := 0) (N := some 17) (v := ?_) (a' := ?_) (bs 12 3) rfl rfl (take_ofW HT_.out HW_.out (by kernel_rfl)) (fun _ _ _ h => h) (Or.inl ⟨by rfl, ?_⟩) hHeld ?_ ?_
 rotate_left
 ·rintro w' ⟨s0, s1, s2, s3, s4, s5, s6⟩
  go_simp
  with_reducible rfl
 rotate_left
 ·simp only [Act.put, sA, sB, sC, i64_w, i32_w]
  rfl
 refine take_ (i := 2) (N := some 19) (v := ?_) (a' := ?_) (bs 12 7) rfl rfl (take_ofW HT_.out HW_.out (by kernel_rfl)) (fun _ _ _ h => h) (Or.inl ⟨by rfl, ?_⟩) hHeld ?_ ?_
 rotate_left
 ·rintro w' ⟨s0, s1, s2, s3, s4, s5, s6⟩
  go_simp
  with_reducible rfl
 rotate_left
 ·simp only [Act.put, sA, sB, sC, i64_w, i32_w]
  rfl
 refine take_ (i := 4) (N := some 21) (v := ?_) (a' := ?_) (bs 12 23) rfl rfl (take_ofW HT_.out HW_.out (by kernel_rfl)) (fun _ _ _ h => h) (Or.inl ⟨by rfl, ?_⟩) hHeld ?_ ?_
 rotate_left
 ·rintro w' ⟨s0, s1, s2, s3, s4, s5, s6⟩
  go_simp
  with_reducible rfl
 rotate_left
 ·simp only [Act.put, sA, sB, sC, i64_w, i32_w]
  rfl
 refine join_ (σ := Value × Value × Nat) 2 (bs 12 1023) (fun s_ => [(20, .agg #[.int .i64 t412, .int .i64 t413, .int .i64 t414, s_.1]), (22, .tuple #[.agg #[.int .i64 t418, .int .i64 t419, s_.2.1], .int .i64 t423]), (4, .pointer (some ⟨s_.2.2, 0, none⟩)), (16, .tuple #[.agg #[.int .i64 t418, .int .i64 t419, s_.2.1], .int .i64 t423]), (23, .agg #[.int .i64 t418, .int .i64 t419, s_.2.1]), (24, .int .i64 t423)]) (fun s_ w' => (w'.cell? ⟨G0, 0, none⟩ = some (.int .i64 2) ∧ w'.cell? ⟨G0, 1, none⟩ = some (.int .i64 1) ∧ w'.cell? ⟨G0, 2, none⟩ = some (.slice Ao38 y407.length co38) ∧ w'.cell? ⟨E4, 0, none⟩ = some (.int .i64 0) ∧ w'.cell? ⟨E4, 1, none⟩ = some (.int .i64 0) ∧ w'.cell? ⟨E4, 2, none⟩ = some (.int .i64 2) ∧ w'.cell? ⟨E4, 3, none⟩ = some (.int .i64 1)) ∧ (Kd.R k28 28 w' w.heap.size (fun _ => True) (.slice Ao35 t403.length co35) t403) ∧ (Kd.R k48 48 w' w.heap.size (fun _ => True) (.slice Ao38 y407.length co38) y407) ∧ (Kd.R k28 28 w' w.heap.size (fun _ => True) s_.1 t415) ∧ (Kd.R k48 48 w' w.heap.size (fun _ => True) s_.2.1 t420) ∧ (w'.heap[G9]? = some (.cells #[.int .i64 t400, .int .i64 t401, .int .i64 t402, .slice Ao35 t403.length co35] 24 (0, 0))) ∧ (w'.heap[G0]? = some (.cells #[.int .i64 2, .int .i64 1, .slice Ao38 y407.length co38] 40 (0, 0))) ∧ (w'.heap[E4]? = some (.cells #[.int .i64 0, .int .i64 0, .int .i64 2, .int .i64 1] 34 (0, 0))) ∧ (w'.heap[s_.2.2]? = some (.cells #[.int .i64 0, .int .i64 0, .slice none 0 0] 40 (0, 0))) ∧ (w.heap.size ≤ s_.2.2) ∧ (w.heap.size ≤ s_.2.2) ∧ (G9 ≠ s_.2.2) ∧ (s_.2.2 ≠ G9) ∧ (G0 ≠ s_.2.2) ∧ (s_.2.2 ≠ G0) ∧ (E4 ≠ s_.2.2) ∧ (s_.2.2 ≠ E4) ∧ (Below w.heap.size w w')) ?_ ?_
 rotate_left
 ·intro hCont
  refine two_ (i := 3) (j := 9) (Ni := some 20) (Nj := some 4) (bs 12 31) (bs 12 535) rfl rfl rfl rfl (two_of HT_.out (by kernel_rfl)) (by decide) (by decide) (fun K hK => ?_) (fun K hK => ?_)
  ·skip
   refine goes_ Try.func33 (by kernel_rfl) rfl #[.int .i64 1, .int .i64 32768, .int .i64 32768, .int .i64 32768, .int .i64 32768] (by rfl) rfl rfl (by (try simp only [List.map_toArray, List.map_cons, List.map_nil]); first | done | rfl | (simp only [List.length_drop, List.length_take]; rfl)) ?_
   with_reducible refine (imageeditorlaw15_mesh.calls 1 32768 32768 32768 32768 t412 t413 t414 t415 _ A2.out).mono ?_
   rintro e w48 ⟨v416, rfl, ho0, hb⟩
   refine ⟨_, rfl, ?_⟩
   have HO417 := zl HB ho0
   replace HO405 := zr HO405 hb
   replace HO409 := zr HO409 hb
   replace E2 := zk E2 hb
   replace E0 := zk E0 hb
   replace E1 := zk E1 hb
   replace HB := zb HB hb
   (try clear hb)
   (try clear hb2)
   (try clear hk)
   (try clear hi)
   (try clear ho0)
   obtain ⟨Ao49, co49, eo49⟩ := Kd.R_slice HO417.out
   (first | subst eo49 | (injection eo49 with f1_ f2_ f3_; have f4_ := f1_.symm; have f5_ := f3_.symm; clear f1_ f2_ f3_; subst f4_; subst f5_))
   refine hK.out _ _ ⟨(blk_cell E0.out 0).trans rfl, (blk_cell E0.out 1).trans rfl, (blk_cell E0.out 2).trans rfl, (blk_cell E1.out 0).trans rfl, (blk_cell E1.out 1).trans rfl, (blk_cell E1.out 2).trans rfl, (blk_cell E1.out 3).trans rfl⟩ (fun hHeld => ?_)
   clear hK K
   refine norm_ (a' := ?_) ?_ ?_
   rotate_left
   ·show Act.put _ (some 20) _ = _
    simp only [Act.put, sA, sB, sC, i64_w, i32_w]
    rfl
   refine two_ (i := 5) (j := 9) (Ni := some 22) (Nj := some 4) (bs 12 63) (bs 12 543) rfl rfl rfl rfl (two_of HT_.out (by kernel_rfl)) (by decide) (by decide) (fun K hK => ?_) (fun K hK => ?_)
   ·skip
    refine goes_ Try.func19 (by kernel_rfl) rfl #[.agg #[.int .i64 2, .int .i64 1, .slice Ao38 y407.length co38], .agg #[.int .i64 0, .int .i64 0], .agg #[.int .i64 0, .int .i64 0, .int .i64 2, .int .i64 1], .agg #[.int .i64 t412, .int .i64 t413, .int .i64 t414, .slice Ao49 t415.length co49], .int .i64 1, .agg #[.int .i64 0, .int .i64 0, .int .i64 2, .int .i64 1]] (by rfl) rfl rfl (by (try simp only [List.map_toArray, List.map_cons, List.map_nil]); first | done | rfl | (simp only [List.length_drop, List.length_take]; rfl)) ?_
    with_reducible refine (warp_Draw.calls k 2 1 _ _ y407 0 0 0 0 2 1 t412 t413 t414 _ _ t415 1 0 0 2 1 t418 t419 t420 t423 _ ?side1 ?side2 ?side3 ?side4 A3.out).mono ?_
    (case side1 => repeat (first | exact (Kd.R_reads' HO409.out).2.2 | (with_reducible refine Kd.C_alloc ?_ _) | (with_reducible refine Kd.C_drewN ?_ _) | (with_reducible refine Kd.C_drew ?_)))
    (case side2 => exact (Kd.R_reads' HO409.out).2.1)
    (case side3 => repeat (first | exact (Kd.R_reads' HO417.out).2.2 | (with_reducible refine Kd.C_alloc ?_ _) | (with_reducible refine Kd.C_drewN ?_ _) | (with_reducible refine Kd.C_drew ?_)))
    (case side4 => exact (Kd.R_reads' HO417.out).2.1)
    rintro e w50 ⟨v421, rfl, ho0, hb⟩
    refine ⟨_, rfl, ?_⟩
    have HO422 := zl HB ho0
    replace HO405 := zr HO405 hb
    replace HO409 := zr HO409 hb
    replace HO417 := zr HO417 hb
    replace E2 := zk E2 hb
    replace E0 := zk E0 hb
    replace E1 := zk E1 hb
    replace HB := zb HB hb
    (try clear hb)
    (try clear hb2)
    (try clear hk)
    (try clear hi)
    (try clear ho0)
    refine hK.out _ _ ⟨(blk_cell E0.out 0).trans rfl, (blk_cell E0.out 1).trans rfl, (blk_cell E0.out 2).trans rfl, (blk_cell E1.out 0).trans rfl, (blk_cell E1.out 1).trans rfl, (blk_cell E1.out 2).trans rfl, (blk_cell E1.out 3).trans rfl⟩ (fun hHeld => ?_)
    clear hK K
    refine norm_ (a' := ?_) ?_ ?_
    rotate_left
    ·show Act.put _ (some 22) _ = _
     simp only [Act.put, sA, sB, sC, i64_w, i32_w]
     rfl
    refine pure_ (i := 6) (N := some 16) (v := ?_) (a' := ?_) (bs 12 127) rfl rfl (any_of HT_.out (by kernel_rfl)) (fun _ _ _ h => h) (Or.inl ⟨by rfl, ?_⟩) ?_ ?_
    rotate_left
    ·intro w'
     go_simp
     with_reducible rfl
    rotate_left
    ·simp only [Act.put, sA, sB, sC, i64_w, i32_w]
     rfl
    refine pure_ (i := 7) (N := some 23) (v := ?_) (a' := ?_) (bs 12 255) rfl rfl (any_of HT_.out (by kernel_rfl)) (fun _ _ _ h => h) (Or.inl ⟨by rfl, ?_⟩) ?_ ?_
    rotate_left
    ·intro w'
     go_simp
     with_reducible rfl
    rotate_left
    ·simp only [Act.put, sA, sB, sC, i64_w, i32_w]
     rfl
    refine pure_ (i := 8) (N := some 24) (v := ?_) (a' := ?_) (bs 12 511) rfl rfl (any_of HT_.out (by kernel_rfl)) (fun _ _ _ h => h) (Or.inl ⟨by rfl, ?_⟩) ?_ ?_
    rotate_left
    ·intro w'
     go_simp
     with_reducible rfl
    rotate_left
    ·simp only [Act.put, sA, sB, sC, i64_w, i32_w]
     rfl
    refine one_ (i := 9) (N := some 4) (bs 12 1023) rfl rfl (one_of HT_.out (by kernel_rfl)) (by decide) (fun K hK => ?_)
    refine box_step ?hg (N := 4) ?hd (cs := #[.int .i64 0, .int .i64 0, .slice none 0 0]) (t := 40) ?hr ?_; (case hd => rfl); (case hg => rfl); (case hr => first | (go_simp; done) | (go_simp; rfl))
    intro E6 hg w51 hbox hb
    have V7 := zg HB hg
    have V6 := zg HB hg
    have G8 := zn E2 hg
    have V0 := zn' E2 hg
    have G1 := zn E0 hg
    have V1 := zn' E0 hg
    have E9 := zn E1 hg
    have V2 := zn' E1 hg
    have n0_ := Aside0.mk (hbox)
    replace HO405 := zr HO405 hb
    replace HO409 := zr HO409 hb
    replace HO417 := zr HO417 hb
    replace HO422 := zr HO422 hb
    replace E2 := zk E2 hb
    replace E0 := zk E0 hb
    replace E1 := zk E1 hb
    replace HB := zb HB hb
    have E3 := n0_
    clear n0_
    clear hb hbox hg
    refine hK.out _ _ ⟨(blk_cell E0.out 0).trans rfl, (blk_cell E0.out 1).trans rfl, (blk_cell E0.out 2).trans rfl, (blk_cell E1.out 0).trans rfl, (blk_cell E1.out 1).trans rfl, (blk_cell E1.out 2).trans rfl, (blk_cell E1.out 3).trans rfl⟩ (fun hHeld => ?_)
    clear hK K
    refine norm_ (a' := ?_) ?_ ?_
    rotate_left
    ·show Act.put _ (some 4) _ = _
     simp only [Act.put, sA, sB, sC, i64_w, i32_w]
     rfl
    exact norm_ (by simp only [putAll, Act.put, sA, sB, sC]) (hCont (.slice Ao49 t415.length co49, v421, E6) _ ⟨hHeld, (by exact zr0 HO405), (by exact zr0 HO409), (by exact zr0 HO417), (by exact zr0 HO422), (by exact zk0 E2), (by exact zk0 E0), (by exact zk0 E1), (by exact zk0 E3), V7.out, V6.out, G8.out, V0.out, G1.out, V1.out, E9.out, V2.out, (by exact zb0 HB)⟩)
   ·skip
    refine box_step ?hg (N := 4) ?hd (cs := #[.int .i64 0, .int .i64 0, .slice none 0 0]) (t := 40) ?hr ?_; (case hd => rfl); (case hg => rfl); (case hr => first | (go_simp; done) | (go_simp; rfl))
    intro E6 hg w49 hbox hb
    have V7 := zg HB hg
    have V6 := zg HB hg
    have G8 := zn E2 hg
    have V0 := zn' E2 hg
    have G1 := zn E0 hg
    have V1 := zn' E0 hg
    have E9 := zn E1 hg
    have V2 := zn' E1 hg
    have n0_ := Aside0.mk (hbox)
    replace HO405 := zr HO405 hb
    replace HO409 := zr HO409 hb
    replace HO417 := zr HO417 hb
    replace E2 := zk E2 hb
    replace E0 := zk E0 hb
    replace E1 := zk E1 hb
    replace HB := zb HB hb
    have E3 := n0_
    clear n0_
    clear hb hbox hg
    obtain ⟨Ao50, co50, eo50⟩ := Kd.R_slice HO417.out
    (first | subst eo50 | (injection eo50 with f1_ f2_ f3_; have f4_ := f1_.symm; have f5_ := f3_.symm; clear f1_ f2_ f3_; subst f4_; subst f5_))
    refine hK.out _ _ ⟨(blk_cell E0.out 0).trans rfl, (blk_cell E0.out 1).trans rfl, (blk_cell E0.out 2).trans rfl, (blk_cell E1.out 0).trans rfl, (blk_cell E1.out 1).trans rfl, (blk_cell E1.out 2).trans rfl, (blk_cell E1.out 3).trans rfl⟩ (fun hHeld => ?_)
    clear hK K
    refine norm_ (a' := ?_) ?_ ?_
    rotate_left
    ·show Act.put _ (some 4) _ = _
     simp only [Act.put, sA, sB, sC, i64_w, i32_w]
     rfl
    refine one_ (i := 5) (N := some 22) (bs 12 575) rfl rfl (one_of HT_.out (by kernel_rfl)) (by decide) (fun K hK => ?_)
    refine goes_ Try.func19 (by kernel_rfl) rfl #[.agg #[.int .i64 2, .int .i64 1, .slice Ao38 y407.length co38], .agg #[.int .i64 0, .int .i64 0], .agg #[.int .i64 0, .int .i64 0, .int .i64 2, .int .i64 1], .agg #[.int .i64 t412, .int .i64 t413, .int .i64 t414, .slice Ao50 t415.length co50], .int .i64 1, .agg #[.int .i64 0, .int .i64 0, .int .i64 2, .int .i64 1]] (by rfl) rfl rfl (by (try simp only [List.map_toArray, List.map_cons, List.map_nil]); first | done | rfl | (simp only [List.length_drop, List.length_take]; rfl)) ?_
    with_reducible refine (warp_Draw.calls k 2 1 _ _ y407 0 0 0 0 2 1 t412 t413 t414 _ _ t415 1 0 0 2 1 t418 t419 t420 t423 _ ?side1 ?side2 ?side3 ?side4 A3.out).mono ?_
    (case side1 => repeat (first | exact (Kd.R_reads' HO409.out).2.2 | (with_reducible refine Kd.C_alloc ?_ _) | (with_reducible refine Kd.C_drewN ?_ _) | (with_reducible refine Kd.C_drew ?_)))
    (case side2 => exact (Kd.R_reads' HO409.out).2.1)
    (case side3 => repeat (first | exact (Kd.R_reads' HO417.out).2.2 | (with_reducible refine Kd.C_alloc ?_ _) | (with_reducible refine Kd.C_drewN ?_ _) | (with_reducible refine Kd.C_drew ?_)))
    (case side4 => exact (Kd.R_reads' HO417.out).2.1)
    rintro e w51 ⟨v421, rfl, ho0, hb⟩
    refine ⟨_, rfl, ?_⟩
    have HO422 := zl HB ho0
    replace HO405 := zr HO405 hb
    replace HO409 := zr HO409 hb
    replace HO417 := zr HO417 hb
    replace E2 := zk E2 hb
    replace E0 := zk E0 hb
    replace E1 := zk E1 hb
    replace E3 := zk E3 hb
    replace HB := zb HB hb
    (try clear hb)
    (try clear hb2)
    (try clear hk)
    (try clear hi)
    (try clear ho0)
    refine hK.out _ _ ⟨(blk_cell E0.out 0).trans rfl, (blk_cell E0.out 1).trans rfl, (blk_cell E0.out 2).trans rfl, (blk_cell E1.out 0).trans rfl, (blk_cell E1.out 1).trans rfl, (blk_cell E1.out 2).trans rfl, (blk_cell E1.out 3).trans rfl⟩ (fun hHeld => ?_)
    clear hK K
    refine norm_ (a' := ?_) ?_ ?_
    rotate_left
    ·show Act.put _ (some 22) _ = _
     simp only [Act.put, sA, sB, sC, i64_w, i32_w]
     rfl
    refine pure_ (i := 6) (N := some 16) (v := ?_) (a' := ?_) (bs 12 639) rfl rfl (any_of HT_.out (by kernel_rfl)) (fun _ _ _ h => h) (Or.inl ⟨by rfl, ?_⟩) ?_ ?_
    rotate_left
    ·intro w'
     go_simp
     with_reducible rfl
    rotate_left
    ·simp only [Act.put, sA, sB, sC, i64_w, i32_w]
     rfl
    refine pure_ (i := 7) (N := some 23) (v := ?_) (a' := ?_) (bs 12 767) rfl rfl (any_of HT_.out (by kernel_rfl)) (fun _ _ _ h => h) (Or.inl ⟨by rfl, ?_⟩) ?_ ?_
    rotate_left
    ·intro w'
     go_simp
     with_reducible rfl
    rotate_left
    ·simp only [Act.put, sA, sB, sC, i64_w, i32_w]
     rfl
    refine pure_ (i := 8) (N := some 24) (v := ?_) (a' := ?_) (bs 12 1023) rfl rfl (any_of HT_.out (by kernel_rfl)) (fun _ _ _ h => h) (Or.inl ⟨by rfl, ?_⟩) ?_ ?_
    rotate_left
    ·intro w'
     go_simp
     with_reducible rfl
    rotate_left
    ·simp only [Act.put, sA, sB, sC, i64_w, i32_w]
     rfl
    exact norm_ (by simp only [putAll, Act.put, sA, sB, sC]) (hCont (.slice Ao50 t415.length co50, v421, E6) _ ⟨hHeld, (by exact zr0 HO405), (by exact zr0 HO409), (by exact zr0 HO417), (by exact zr0 HO422), (by exact zk0 E2), (by exact zk0 E0), (by exact zk0 E1), (by exact zk0 E3), V7.out, V6.out, G8.out, V0.out, G1.out, V1.out, E9.out, V2.out, (by exact zb0 HB)⟩)
  ·skip
   refine box_step ?hg (N := 4) ?hd (cs := #[.int .i64 0, .int .i64 0, .slice none 0 0]) (t := 40) ?hr ?_; (case hd => rfl); (case hg => rfl); (case hr => first | (go_simp; done) | (go_simp; rfl))
   intro E6 hg w48 hbox hb
   have V7 := zg HB hg
   have V6 := zg HB hg
   have G8 := zn E2 hg
   have V0 := zn' E2 hg
   have G1 := zn E0 hg
   have V1 := zn' E0 hg
   have E9 := zn E1 hg
   have V2 := zn' E1 hg
   have n0_ := Aside0.mk (hbox)
   replace HO405 := zr HO405 hb
   replace HO409 := zr HO409 hb
   replace E2 := zk E2 hb
   replace E0 := zk E0 hb
   replace E1 := zk E1 hb
   replace HB := zb HB hb
   have E3 := n0_
   clear n0_
   clear hb hbox hg
   refine hK.out _ _ ⟨(blk_cell E0.out 0).trans rfl, (blk_cell E0.out 1).trans rfl, (blk_cell E0.out 2).trans rfl, (blk_cell E1.out 0).trans rfl, (blk_cell E1.out 1).trans rfl, (blk_cell E1.out 2).trans rfl, (blk_cell E1.out 3).trans rfl⟩ (fun hHeld => ?_)
   clear hK K
   refine norm_ (a' := ?_) ?_ ?_
   rotate_left
   ·show Act.put _ (some 4) _ = _
    simp only [Act.put, sA, sB, sC, i64_w, i32_w]
    rfl
   refine one_ (i := 3) (N := some 20) (bs 12 543) rfl rfl (one_of HT_.out (by kernel_rfl)) (by decide) (fun K hK => ?_)
   refine goes_ Try.func33 (by kernel_rfl) rfl #[.int .i64 1, .int .i64 32768, .int .i64 32768, .int .i64 32768, .int .i64 32768] (by rfl) rfl rfl (by (try simp only [List.map_toArray, List.map_cons, List.map_nil]); first | done | rfl | (simp only [List.length_drop, List.length_take]; rfl)) ?_
   with_reducible refine (imageeditorlaw15_mesh.calls 1 32768 32768 32768 32768 t412 t413 t414 t415 _ A2.out).mono ?_
   rintro e w49 ⟨v416, rfl, ho0, hb⟩
   refine ⟨_, rfl, ?_⟩
   have HO417 := zl HB ho0
   replace HO405 := zr HO405 hb
   replace HO409 := zr HO409 hb
   replace E2 := zk E2 hb
   replace E0 := zk E0 hb
   replace E1 := zk E1 hb
   replace E3 := zk E3 hb
   replace HB := zb HB hb
   (try clear hb)
   (try clear hb2)
   (try clear hk)
   (try clear hi)
   (try clear ho0)
   obtain ⟨Ao50, co50, eo50⟩ := Kd.R_slice HO417.out
   (first | subst eo50 | (injection eo50 with f1_ f2_ f3_; have f4_ := f1_.symm; have f5_ := f3_.symm; clear f1_ f2_ f3_; subst f4_; subst f5_))
   refine hK.out _ _ ⟨(blk_cell E0.out 0).trans rfl, (blk_cell E0.out 1).trans rfl, (blk_cell E0.out 2).trans rfl, (blk_cell E1.out 0).trans rfl, (blk_cell E1.out 1).trans rfl, (blk_cell E1.out 2).trans rfl, (blk_cell E1.out 3).trans rfl⟩ (fun hHeld => ?_)
   clear hK K
   refine norm_ (a' := ?_) ?_ ?_
   rotate_left
   ·show Act.put _ (some 20) _ = _
    simp only [Act.put, sA, sB, sC, i64_w, i32_w]
    rfl
   refine one_ (i := 5) (N := some 22) (bs 12 575) rfl rfl (one_of HT_.out (by kernel_rfl)) (by decide) (fun K hK => ?_)
   refine goes_ Try.func19 (by kernel_rfl) rfl #[.agg #[.int .i64 2, .int .i64 1, .slice Ao38 y407.length co38], .agg #[.int .i64 0, .int .i64 0], .agg #[.int .i64 0, .int .i64 0, .int .i64 2, .int .i64 1], .agg #[.int .i64 t412, .int .i64 t413, .int .i64 t414, .slice Ao50 t415.length co50], .int .i64 1, .agg #[.int .i64 0, .int .i64 0, .int .i64 2, .int .i64 1]] (by rfl) rfl rfl (by (try simp only [List.map_toArray, List.map_cons, List.map_nil]); first | done | rfl | (simp only [List.length_drop, List.length_take]; rfl)) ?_
   with_reducible refine (warp_Draw.calls k 2 1 _ _ y407 0 0 0 0 2 1 t412 t413 t414 _ _ t415 1 0 0 2 1 t418 t419 t420 t423 _ ?side1 ?side2 ?side3 ?side4 A3.out).mono ?_
   (case side1 => repeat (first | exact (Kd.R_reads' HO409.out).2.2 | (with_reducible refine Kd.C_alloc ?_ _) | (with_reducible refine Kd.C_drewN ?_ _) | (with_reducible refine Kd.C_drew ?_)))
   (case side2 => exact (Kd.R_reads' HO409.out).2.1)
   (case side3 => repeat (first | exact (Kd.R_reads' HO417.out).2.2 | (with_reducible refine Kd.C_alloc ?_ _) | (with_reducible refine Kd.C_drewN ?_ _) | (with_reducible refine Kd.C_drew ?_)))
   (case side4 => exact (Kd.R_reads' HO417.out).2.1)
   rintro e w51 ⟨v421, rfl, ho0, hb⟩
   refine ⟨_, rfl, ?_⟩
   have HO422 := zl HB ho0
   replace HO405 := zr HO405 hb
   replace HO409 := zr HO409 hb
   replace HO417 := zr HO417 hb
   replace E2 := zk E2 hb
   replace E0 := zk E0 hb
   replace E1 := zk E1 hb
   replace E3 := zk E3 hb
   replace HB := zb HB hb
   (try clear hb)
   (try clear hb2)
   (try clear hk)
   (try clear hi)
   (try clear ho0)
   refine hK.out _ _ ⟨(blk_cell E0.out 0).trans rfl, (blk_cell E0.out 1).trans rfl, (blk_cell E0.out 2).trans rfl, (blk_cell E1.out 0).trans rfl, (blk_cell E1.out 1).trans rfl, (blk_cell E1.out 2).trans rfl, (blk_cell E1.out 3).trans rfl⟩ (fun hHeld => ?_)
   clear hK K
   refine norm_ (a' := ?_) ?_ ?_
   rotate_left
   ·show Act.put _ (some 22) _ = _
    simp only [Act.put, sA, sB, sC, i64_w, i32_w]
    rfl
   refine pure_ (i := 6) (N := some 16) (v := ?_) (a' := ?_) (bs 12 639) rfl rfl (any_of HT_.out (by kernel_rfl)) (fun _ _ _ h => h) (Or.inl ⟨by rfl, ?_⟩) ?_ ?_
   rotate_left
   ·intro w'
    go_simp
    with_reducible rfl
   rotate_left
   ·simp only [Act.put, sA, sB, sC, i64_w, i32_w]
    rfl
   refine pure_ (i := 7) (N := some 23) (v := ?_) (a' := ?_) (bs 12 767) rfl rfl (any_of HT_.out (by kernel_rfl)) (fun _ _ _ h => h) (Or.inl ⟨by rfl, ?_⟩) ?_ ?_
   rotate_left
   ·intro w'
    go_simp
    with_reducible rfl
   rotate_left
   ·simp only [Act.put, sA, sB, sC, i64_w, i32_w]
    rfl
   refine pure_ (i := 8) (N := some 24) (v := ?_) (a' := ?_) (bs 12 1023) rfl rfl (any_of HT_.out (by kernel_rfl)) (fun _ _ _ h => h) (Or.inl ⟨by rfl, ?_⟩) ?_ ?_
   rotate_left
   ·intro w'
    go_simp
    with_reducible rfl
   rotate_left
   ·simp only [Act.put, sA, sB, sC, i64_w, i32_w]
    rfl
   exact norm_ (by simp only [putAll, Act.put, sA, sB, sC]) (hCont (.slice Ao50 t415.length co50, v421, E6) _ ⟨hHeld, (by exact zr0 HO405), (by exact zr0 HO409), (by exact zr0 HO417), (by exact zr0 HO422), (by exact zk0 E2), (by exact zk0 E0), (by exact zk0 E1), (by exact zk0 E3), V7.out, V6.out, G8.out, V0.out, G1.out, V1.out, E9.out, V2.out, (by exact zb0 HB)⟩)
 rintro ⟨v416, v421, E6⟩ w52 ⟨hS_, h0_, h1_, h2_, h3_, h4_, h5_, h6_, h7_, h8_, h9_, h10_, h11_, h12_, h13_, h14_, h15_, h16_⟩
 have n0_ : Aside0 (Kd.R k28 28 w52 w.heap.size (fun _ => True) (.slice Ao35 t403.length co35) t403) := ⟨h0_⟩
 have n1_ : Aside0 (Kd.R k48 48 w52 w.heap.size (fun _ => True) (.slice Ao38 y407.length co38) y407) := ⟨h1_⟩
 have n2_ : Aside0 (Kd.R k28 28 w52 w.heap.size (fun _ => True) v416 t415) := ⟨h2_⟩
 have n3_ : Aside0 (Kd.R k48 48 w52 w.heap.size (fun _ => True) v421 t420) := ⟨h3_⟩
 have n4_ : Aside0 (w52.heap[G9]? = some (.cells #[.int .i64 t400, .int .i64 t401, .int .i64 t402, .slice Ao35 t403.length co35] 24 (0, 0))) := ⟨h4_⟩
 have n5_ : Aside0 (w52.heap[G0]? = some (.cells #[.int .i64 2, .int .i64 1, .slice Ao38 y407.length co38] 40 (0, 0))) := ⟨h5_⟩
 have n6_ : Aside0 (w52.heap[E4]? = some (.cells #[.int .i64 0, .int .i64 0, .int .i64 2, .int .i64 1] 34 (0, 0))) := ⟨h6_⟩
 have n7_ : Aside0 (w52.heap[E6]? = some (.cells #[.int .i64 0, .int .i64 0, .slice none 0 0] 40 (0, 0))) := ⟨h7_⟩
 have n8_ : Aside0 (w.heap.size ≤ E6) := ⟨h8_⟩
 have n9_ : Aside0 (w.heap.size ≤ E6) := ⟨h9_⟩
 have n10_ : Aside0 (G9 ≠ E6) := ⟨h10_⟩
 have n11_ : Aside0 (E6 ≠ G9) := ⟨h11_⟩
 have n12_ : Aside0 (G0 ≠ E6) := ⟨h12_⟩
 have n13_ : Aside0 (E6 ≠ G0) := ⟨h13_⟩
 have n14_ : Aside0 (E4 ≠ E6) := ⟨h14_⟩
 have n15_ : Aside0 (E6 ≠ E4) := ⟨h15_⟩
 have n16_ : Aside0 (Below w.heap.size w w52) := ⟨h16_⟩
 clear HO405
 clear HO409
 clear E2
 clear E0
 clear E1
 clear HB
 clear h0_ h1_ h2_ h3_ h4_ h5_ h6_ h7_ h8_ h9_ h10_ h11_ h12_ h13_ h14_ h15_ h16_
 have HO405 := n0_
 have HO409 := n1_
 have HO417 := n2_
 have HO422 := n3_
 have E2 := n4_
 have E0 := n5_
 have E1 := n6_
 have E3 := n7_
 have V7 := n8_
 have V6 := n9_
 have G8 := n10_
 have V0 := n11_
 have G1 := n12_
 have V1 := n13_
 have E9 := n14_
 have V2 := n15_
 have HB := n16_
 clear n0_ n1_ n2_ n3_ n4_ n5_ n6_ n7_ n8_ n9_ n10_ n11_ n12_ n13_ n14_ n15_ n16_
 have hHeld : w52.cell? ⟨G0, 0, none⟩ = some (.int .i64 2) ∧ w52.cell? ⟨G0, 1, none⟩ = some (.int .i64 1) ∧ w52.cell? ⟨G0, 2, none⟩ = some (.slice Ao38 y407.length co38) ∧ w52.cell? ⟨E4, 0, none⟩ = some (.int .i64 0) ∧ w52.cell? ⟨E4, 1, none⟩ = some (.int .i64 0) ∧ w52.cell? ⟨E4, 2, none⟩ = some (.int .i64 2) ∧ w52.cell? ⟨E4, 3, none⟩ = some (.int .i64 1) := hS_
 obtain ⟨Ao55, co55, eo55⟩ := Kd.R_slice HO422.out
 (first | subst eo55 | (injection eo55 with f1_ f2_ f3_; have f4_ := f1_.symm; have f5_ := f3_.symm; clear f1_ f2_ f3_; subst f4_; subst f5_))
 refine norm_ (a' := ?_) ?_ ?_
 rotate_left
 ·simp only [putAll, Act.put, sA, sB, sC]
  rfl
 refine one_ (i := 10) (N := none) (bs 12 2047) rfl rfl (one_of HT_.out (by kernel_rfl)) (by decide) (fun K hK => ?_)
 have hs53 : w52.cell? ⟨E6, 0, none⟩ = some (.int .i64 0) := (blk_cell E3.out 0).trans rfl
 have hfs53 := blk_frozen E3.out 0
 have E1d := G8.out
 have E1e := G1.out
 have E1f := E9.out
 have E1g := V0.out
 have E1h := V1.out
 have E1i := V2.out
 have hs54 : w52.cell? ⟨E6, 1, none⟩ = some (.int .i64 0) := (blk_cell E3.out 1).trans rfl
 have hfs54 := blk_frozen E3.out 1
 have E1j := G8.out
 have E1k := G1.out
 have E1l := E9.out
 have E1m := V0.out
 have E1n := V1.out
 have E1o := V2.out
 have hs56 : w52.cell? ⟨E6, 2, none⟩ = some (.slice none 0 0) := (blk_cell E3.out 2).trans rfl
 have hfs56 := blk_frozen E3.out 2
 have E1p := G8.out
 have E1q := G1.out
 have E1r := E9.out
 have E1s := V0.out
 have E1t := V1.out
 have E1u := V2.out
 refine skip_ (w1 := ?_) (by rfl) rfl ?_ ?_
 rotate_left
 ·go_simp
  rfl
 refine hK.out _ _ ⟨((cell_far (p := ⟨E6, _, none⟩) G1.out _).trans (((cell_far (p := ⟨E6, _, none⟩) G1.out _).trans (((cell_far (p := ⟨E6, _, none⟩) G1.out _).trans (hHeld.1)))))), ((cell_far (p := ⟨E6, _, none⟩) G1.out _).trans (((cell_far (p := ⟨E6, _, none⟩) G1.out _).trans (((cell_far (p := ⟨E6, _, none⟩) G1.out _).trans (hHeld.2.1)))))), ((cell_far (p := ⟨E6, _, none⟩) G1.out _).trans (((cell_far (p := ⟨E6, _, none⟩) G1.out _).trans (((cell_far (p := ⟨E6, _, none⟩) G1.out _).trans (hHeld.2.2.1)))))), ((cell_far (p := ⟨E6, _, none⟩) E9.out _).trans (((cell_far (p := ⟨E6, _, none⟩) E9.out _).trans (((cell_far (p := ⟨E6, _, none⟩) E9.out _).trans (hHeld.2.2.2.1)))))), ((cell_far (p := ⟨E6, _, none⟩) E9.out _).trans (((cell_far (p := ⟨E6, _, none⟩) E9.out _).trans (((cell_far (p := ⟨E6, _, none⟩) E9.out _).trans (hHeld.2.2.2.2.1)))))), ((cell_far (p := ⟨E6, _, none⟩) E9.out _).trans (((cell_far (p := ⟨E6, _, none⟩) E9.out _).trans (((cell_far (p := ⟨E6, _, none⟩) E9.out _).trans (hHeld.2.2.2.2.2.1)))))), ((cell_far (p := ⟨E6, _, none⟩) E9.out _).trans (((cell_far (p := ⟨E6, _, none⟩) E9.out _).trans (((cell_far (p := ⟨E6, _, none⟩) E9.out _).trans (hHeld.2.2.2.2.2.2))))))⟩ (fun hHeld => ?_)
 clear hK K
 refine pure_ (i := 11) (N := some 5) (v := ?_) (a' := ?_) (bs 12 4095) rfl rfl (any_of HT_.out (by kernel_rfl)) (fun _ _ _ h => h) (Or.inl ⟨by rfl, ?_⟩) ?_ ?_
 rotate_left
 ·intro w'
  go_simp
  with_reducible rfl
 rotate_left
 ·simp only [Act.put, sA, sB, sC, i64_w, i32_w]
  rfl
 refine done_ (done_of HT_.out (by kernel_rfl)) ?_
 have E1v := G8.out
 have E1w := V0.out
 obtain ⟨E1x, E1y, E1z, E1A, E1B, E1C, E1D, E1E⟩ := zq4 E2
 try go_wp2_with (first | ((with_reducible refine gate_callee (f := 17) rfl ?_); refine goesL_ (some 29) rfl rfl Try.func17 (by kernel_rfl) rfl #[.agg #[.int .i64 t400, .int .i64 t401, .int .i64 t402, .slice Ao35 t403.length co35], .int .i64 0, .agg #[.int .i64 0, .int .i64 0, .int .i64 1, .int .i64 1], .agg #[.int .i64 0, .int .i64 0, .int .i64 9, .int .i64 9]] rfl (by (try simp only [List.map_toArray, List.map_cons, List.map_nil]); first | done | rfl | (simp only [List.length_drop, List.length_take]; rfl)) ?_; (with_reducible refine (warp_Needs.calls k t400 t401 t402 _ _ t403 0 0 0 1 1 0 0 9 9 t425 t426 t427 t428 t429 _ ?side1 ?side2 A4.out).mono ?_); (case side1 => refine (Kd.R_reads' (e := 28) (base := w.heap.size) (ok := fun k_ => True) (n := t403.length) (c := co35) ?_).2.2; exact (by exact zro HO405 E3 (by decide))); (case side2 => exact (Kd.R_reads' HO405.out).2.1); rintro e w59 ⟨rfl, hb⟩; refine ⟨_, rfl, ?_⟩; have n0_ := Aside0.mk (Kd.R_below (by exact zro HO405 E3 (by decide)) hb); have n1_ := Aside0.mk (Kd.R_below (by exact zro HO409 E3 (by decide)) hb); have n2_ := Aside0.mk (Kd.R_below (by exact zro HO417 E3 (by decide)) hb); have n3_ := Aside0.mk (Kd.R_below (by exact zro HO422 E3 (by decide)) hb); have n4_ := Aside0.mk (blk_below (g := E6) (o := .cells #[.int .i64 t418, .int .i64 t419, .slice Ao55 t420.length co55] 40 (0, 0)) (by exact zp E3 rfl) hb); have n5_ := Aside0.mk (below_step (by exact zbo HB V6) hb); replace E2 := zfk E2 G8 hb; replace E0 := zfk E0 G1 hb; replace E1 := zfk E1 E9 hb; clear HO405; clear HO409; clear HO417; clear HO422; clear E3; clear HB; have HO405 := n0_; have HO409 := n1_; have HO417 := n2_; have HO422 := n3_; have E3 := n4_; have HB := n5_; clear n0_ n1_ n2_ n3_ n4_ n5_; (try clear hb); (try clear E1); (try clear HO417)) | ((with_reducible refine gate_dst (N := 6) rfl ?_); (try (refine gate_guard (by rfl) ?_; dsimp only)); refine box_event ?hg (N := 6) ?hd (cs := #[.int .i64 0, .int .i64 0, .int .i64 0, .int .i64 0]) (t := 34) ?hr ?_; (case hd => rfl); (case hg => rfl); (case hr => first | (go_simp; done) | (go_simp; rfl)); intro E0f hg w60 hbox hb; have E1F := zg HB hg; have Z2 := zg HB hg; have Z3 := zn E2 hg; have E0g := zn' E2 hg; have Z4 := zn E0 hg; have E0h := zn' E0 hg; have Z5 := zn E3 hg; have E0i := zn' E3 hg; have n0_ := Aside0.mk (hbox); replace HO405 := zr HO405 hb; replace HO409 := zr HO409 hb; replace HO422 := zr HO422 hb; replace E2 := zk E2 hb; replace E0 := zk E0 hb; replace E3 := zk E3 hb; replace HB := zb HB hb; have E7 := n0_; clear n0_; clear hb hbox hg; have E1G := E0g.out; have E1H := Z3.out; have E1I := E0h.out; have E1J := Z4.out; have E1K := E0i.out; have E1L := Z5.out; obtain ⟨E1M, E1N, E1O, E1P, E1Q, E1R, E1S, E1T⟩ := zq4 E7; have E1U := G1.out; have E1V := V1.out; obtain ⟨E1W, E1X, E1Y, E1Z, E2a, E2b⟩ := zq3 E0; obtain ⟨E2c, E2d, E2e, E2f, E2g, E2h, E2i, E2j⟩ := zq4 E2) | ((with_reducible refine gate_callee (f := 19) rfl ?_); refine goesL_ (some 38) rfl rfl Try.func19 (by kernel_rfl) rfl #[.agg #[.int .i64 2, .int .i64 1, .slice Ao38 y407.length co38], .agg #[.int .i64 0, .int .i64 0], .agg #[.int .i64 0, .int .i64 0, .int .i64 9, .int .i64 9], .agg #[.int .i64 t400, .int .i64 t401, .int .i64 t402, .slice Ao35 t403.length co35], .int .i64 0, .agg #[.int .i64 0, .int .i64 0, .int .i64 1, .int .i64 1]] rfl (by (try simp only [List.map_toArray, List.map_cons, List.map_nil]); first | done | rfl | (simp only [List.length_drop, List.length_take]; rfl)) ?_; (with_reducible refine (warp_Draw.calls k 2 1 _ _ y407 0 0 0 0 9 9 t400 t401 t402 _ _ t403 0 0 0 1 1 t431 t432 t433 t436 _ ?side1 ?side2 ?side3 ?side4 A5.out).mono ?_); (case side1 => refine (Kd.R_reads' (e := 48) (base := w.heap.size) (ok := fun k_ => True) (n := y407.length) (c := co38) ?_).2.2; exact (by exact zro HO409 E7 (by decide))); (case side2 => exact (Kd.R_reads' HO409.out).2.1); (case side3 => refine (Kd.R_reads' (e := 28) (base := w.heap.size) (ok := fun k_ => True) (n := t403.length) (c := co35) ?_).2.2; exact (by exact zro HO405 E7 (by decide))); (case side4 => exact (Kd.R_reads' HO405.out).2.1); rintro e w68 ⟨v434, rfl, ho0, hb⟩; refine ⟨_, rfl, ?_⟩; have n0_ := Aside0.mk (Kd.R_below (by exact zro HO405 E7 (by decide)) hb); have n1_ := Aside0.mk (Kd.R_below (by exact zro HO409 E7 (by decide)) hb); have n2_ := Aside0.mk (Kd.R_below (by exact zro HO422 E7 (by decide)) hb); have n3_ := Aside0.mk (Kd.R_lower ho0 (below_size (by exact zbo HB Z2))); have n4_ := Aside0.mk (blk_below (g := E0f) (o := .cells #[.int .i64 t425, .int .i64 t426, .int .i64 t427, .int .i64 t428] 34 (0, 0)) (by exact zp E7 rfl) hb); have n5_ := Aside0.mk (below_step (by exact zbo HB Z2) hb); replace E2 := zfk E2 Z3 hb; replace E0 := zfk E0 Z4 hb; replace E3 := zfk E3 Z5 hb; clear HO405; clear HO409; clear HO422; clear E7; clear HB; have HO405 := n0_; have HO409 := n1_; have HO422 := n2_; have HO435 := n3_; have E7 := n4_; have HB := n5_; clear n0_ n1_ n2_ n3_ n4_ n5_; (try clear hb); (try clear ho0); (try clear HO409); (try clear E0)) | ((with_reducible refine gate_dst (N := 8) rfl ?_); (try (refine gate_guard (by rfl) ?_; dsimp only)); refine box_event ?hg (N := 8) ?hd (cs := #[.int .i64 0, .int .i64 0, .slice none 0 0]) (t := 40) ?hr ?_; (case hd => rfl); (case hg => rfl); (case hr => first | (go_simp; done) | (go_simp; rfl)); intro E0j hg w69 hbox hb; have E2k := zg HB hg; have E0k := zg HB hg; have Z6 := zn E2 hg; have E0l := zn' E2 hg; have Z7 := zn E3 hg; have E0m := zn' E3 hg; have Z8 := zn E7 hg; have E0n := zn' E7 hg; have n0_ := Aside0.mk (hbox); replace HO405 := zr HO405 hb; replace HO422 := zr HO422 hb; replace HO435 := zr HO435 hb; replace E2 := zk E2 hb; replace E3 := zk E3 hb; replace E7 := zk E7 hb; replace HB := zb HB hb; have V3 := n0_; clear n0_; clear hb hbox hg; have E2l := E0l.out; have E2m := Z6.out; have E2n := E0m.out; have E2o := Z7.out; have E2p := E0n.out; have E2q := Z8.out; obtain ⟨E2r, E2s, E2t, E2u, E2v, E2w⟩ := zq3 V3; obtain ⟨Ao74, co74, eo74⟩ := Kd.R_slice HO435.out; subst eo74; obtain ⟨E2x, E2y, E2z, E2A, E2B, E2C, E2D, E2E⟩ := zq4 E2) | ((with_reducible refine gate_callee (f := 10) rfl ?_); refine goesL_ (some 42) rfl rfl Try.func10 (by kernel_rfl) rfl #[.agg #[.int .i64 t400, .int .i64 t401, .int .i64 t402, .slice Ao35 t403.length co35]] rfl (by (try simp only [List.map_toArray, List.map_cons, List.map_nil]); first | done | rfl | (simp only [List.length_drop, List.length_take]; rfl)) ?_; (with_reducible refine (warp_Check.calls k t400 t401 t402 _ _ t403 t438 _ ?side1 ?side2 A6.out).mono ?_); (case side1 => refine (Kd.R_reads' (e := 28) (base := w.heap.size) (ok := fun k_ => True) (n := t403.length) (c := co35) ?_).2.2; exact (by exact zro HO405 V3 (by decide))); (case side2 => exact (Kd.R_reads' HO405.out).2.1); rintro e w76 ⟨rfl, hb⟩; refine ⟨_, rfl, ?_⟩; have n0_ := Aside0.mk (Kd.R_below (by exact zro HO405 V3 (by decide)) hb); have n1_ := Aside0.mk (Kd.R_below (by exact zro HO422 V3 (by decide)) hb); have n2_ := Aside0.mk (Kd.R_below (by exact zro HO435 V3 (by decide)) hb); have n3_ := Aside0.mk (blk_below (g := E0j) (o := .cells #[.int .i64 t431, .int .i64 t432, .slice Ao74 t433.length co74] 40 (0, 0)) (by exact zp V3 rfl) hb); have n4_ := Aside0.mk (below_step (by exact zbo HB E0k) hb); replace E2 := zfk E2 Z6 hb; replace E3 := zfk E3 Z7 hb; replace E7 := zfk E7 Z8 hb; clear HO405; clear HO422; clear HO435; clear V3; clear HB; have HO405 := n0_; have HO422 := n1_; have HO435 := n2_; have V3 := n3_; have HB := n4_; clear n0_ n1_ n2_ n3_ n4_; (try clear hb); (try clear HO405); (try clear E2); (try clear HO435); (try clear V3)) | (go_at_call 10; (have hz_ := fun (W : World) => (show Calls Try.prog 10 #[.agg #[.int .i64 2, .int .i64 2, .int .i64 1, .slice none 0 0]] W _ from warp_Check.calls k 2 2 1 none 0 ([] : List (S28)) t439 W (Kd.C_nil _ _) (Nat.le_refl _) A8.out)); (with_reducible refine (hz_ _).mono ?_); (try clear hz_); rintro e w77 ⟨rfl, hb⟩; replace HO422 := zr HO422 hb; replace E3 := zk E3 hb; replace E7 := zk E7 hb; replace HB := zb HB hb; (try clear hb)) | (go_at_call 33; (with_reducible refine (imageeditorlaw15_mesh.calls 1 1048577 0 0 0 t440 t441 t442 t443 _ A10.out).mono ?_); rintro e w78 ⟨v444, rfl, ho0, hb⟩; have HO445 := zl HB ho0; replace HO422 := zr HO422 hb; replace E3 := zk E3 hb; replace E7 := zk E7 hb; replace HB := zb HB hb; (try clear hb); (try clear ho0); obtain ⟨Ao79, co79, eo79⟩ := Kd.R_slice HO445.out; subst eo79) | (go_at_call 10; (with_reducible refine (warp_Check.calls k t440 t441 t442 _ _ t443 t446 _ ?side1 ?side2 A11.out).mono ?_); (case side1 => repeat (first | exact (Kd.R_reads' HO445.out).2.2 | (with_reducible refine Kd.C_alloc ?_ _) | (with_reducible refine Kd.C_drewN ?_ _) | (with_reducible refine Kd.C_drew ?_))); (case side2 => exact (Kd.R_reads' HO445.out).2.1); rintro e w80 ⟨rfl, hb⟩; replace HO422 := zr HO422 hb; replace E3 := zk E3 hb; replace E7 := zk E7 hb; replace HB := zb HB hb; (try clear hb)) | (go_at_call 33; (with_reducible refine (imageeditorlaw15_mesh.calls 4 0 8 0 8 t447 t448 t449 t450 _ A13.out).mono ?_); rintro e w81 ⟨v451, rfl, ho0, hb⟩; have HO452 := zl HB ho0; replace HO422 := zr HO422 hb; replace E3 := zk E3 hb; replace E7 := zk E7 hb; replace HB := zb HB hb; (try clear hb); (try clear ho0); obtain ⟨Ao82, co82, eo82⟩ := Kd.R_slice HO452.out; subst eo82) | (go_at_call 12; (with_reducible refine (warp_At.calls k t447 t448 t449 _ _ t450 1 3 t453 t454 _ ?side1 ?side2 A14.out).mono ?_); (case side1 => repeat (first | exact (Kd.R_reads' HO452.out).2.2 | (with_reducible refine Kd.C_alloc ?_ _) | (with_reducible refine Kd.C_drewN ?_ _) | (with_reducible refine Kd.C_drew ?_))); (case side2 => exact (Kd.R_reads' HO452.out).2.1); rintro e w83 ⟨rfl, hb⟩; replace HO422 := zr HO422 hb; replace E3 := zk E3 hb; replace E7 := zk E7 hb; replace HB := zb HB hb; (try clear hb)) | (go_at_call 33; (with_reducible refine (imageeditorlaw15_mesh.calls 2 0 1 0 1 t455 t456 t457 t458 _ A16.out).mono ?_); rintro e w84 ⟨v459, rfl, ho0, hb⟩; have HO460 := zl HB ho0; replace HO422 := zr HO422 hb; replace E3 := zk E3 hb; replace E7 := zk E7 hb; replace HB := zb HB hb; (try clear hb); (try clear ho0); obtain ⟨Ao85, co85, eo85⟩ := Kd.R_slice HO460.out; subst eo85) | (go_at_call 12; (with_reducible refine (warp_At.calls k t455 t456 t457 _ _ t458 1 0 t461 t462 _ ?side1 ?side2 A17.out).mono ?_); (case side1 => repeat (first | exact (Kd.R_reads' HO460.out).2.2 | (with_reducible refine Kd.C_alloc ?_ _) | (with_reducible refine Kd.C_drewN ?_ _) | (with_reducible refine Kd.C_drew ?_))); (case side2 => exact (Kd.R_reads' HO460.out).2.1); rintro e w86 ⟨rfl, hb⟩; replace HO422 := zr HO422 hb; replace E3 := zk E3 hb; replace E7 := zk E7 hb; replace HB := zb HB hb; (try clear hb)) | (go_at_call 33; (with_reducible refine (imageeditorlaw15_mesh.calls 1 65537 0 0 0 t463 t464 t465 t466 _ A19.out).mono ?_); rintro e w87 ⟨v467, rfl, ho0, hb⟩; have HO468 := zl HB ho0; replace HO422 := zr HO422 hb; replace E3 := zk E3 hb; replace E7 := zk E7 hb; replace HB := zb HB hb; (try clear hb); (try clear ho0); obtain ⟨Ao88, co88, eo88⟩ := Kd.R_slice HO468.out; subst eo88) | (go_at_call 14; (with_reducible refine (warp_Reach.calls k t463 t464 t465 _ _ t466 t469 _ ?side1 ?side2 A20.out).mono ?_); (case side1 => repeat (first | exact (Kd.R_reads' HO468.out).2.2 | (with_reducible refine Kd.C_alloc ?_ _) | (with_reducible refine Kd.C_drewN ?_ _) | (with_reducible refine Kd.C_drew ?_))); (case side2 => exact (Kd.R_reads' HO468.out).2.1); rintro e w89 ⟨rfl, hb⟩; replace HO422 := zr HO422 hb; replace E3 := zk E3 hb; replace E7 := zk E7 hb; replace HB := zb HB hb; (try clear hb); obtain ⟨E2F, E2G, E2H, E2I, E2J, E2K, E2L, E2M⟩ := zq4 E7; obtain ⟨E2N, E2O, E2P, E2Q, E2R, E2S⟩ := zq3 E3; have p470 : 0 ≤ (0 : Int) := (by omega); have q470 : 0 < (t420.length : Int) := of_decide_eq_true (by first | (with_reducible assumption) | assumption); obtain ⟨E0o, e470, Y1, Y2, Y3, Y4⟩ := at_T48 (Kd.R_reads' HO422.out).2.2 0 p470 q470; cases e470; have qi470 : (0 < t420.length) = True := eq_true (by omega); (try rw [show ((0 : Int)).toNat = 0 from rfl] at Y1); (try rw [show 0 * 4 = 0 from rfl] at Y1); (try rw [Addr.add_zero'] at Y1); (try rw [show ((0 : Int)).toNat = 0 from rfl] at Y2); (try rw [show 0 * 4 = 0 from rfl] at Y2); (try rw [Addr.add_zero'] at Y2); (try rw [show ((0 : Int)).toNat = 0 from rfl] at Y3); (try rw [show 0 * 4 = 0 from rfl] at Y3); (try rw [Addr.add_zero'] at Y3); (try rw [show ((0 : Int)).toNat = 0 from rfl] at Y4); (try rw [show 0 * 4 = 0 from rfl] at Y4); (try rw [Addr.add_zero'] at Y4); replace p470 := eq_true p470; replace q470 := eq_true q470; have p471 : 0 ≤ (1 : Int) := (by omega); have q471 : 1 < (t420.length : Int) := of_decide_eq_true (by first | (with_reducible assumption) | assumption); obtain ⟨E0p, e471, Y5, Y6, Y7, Y8⟩ := at_T48 (Kd.R_reads' HO422.out).2.2 1 p471 q471; obtain rfl : E0o = E0p := (by injection e471); (try simp only [show (1 : Int).toNat = 1 from rfl, Nat.reduceMul, Nat.reduceEqDiff, Go.Addr.add, ↓reduceIte] at Y5); (try simp only [show (1 : Int).toNat = 1 from rfl, Nat.reduceMul, Nat.reduceEqDiff, Go.Addr.add, ↓reduceIte] at Y6); (try simp only [show (1 : Int).toNat = 1 from rfl, Nat.reduceMul, Nat.reduceEqDiff, Go.Addr.add, ↓reduceIte] at Y7); (try simp only [show (1 : Int).toNat = 1 from rfl, Nat.reduceMul, Nat.reduceEqDiff, Go.Addr.add, ↓reduceIte] at Y8); have qi471 : (1 < t420.length) = True := eq_true (by omega); (try rw [show ((1 : Int)).toNat = 1 from rfl] at Y5); (try rw [show 1 * 4 = 4 from rfl] at Y5); (try rw [show ((1 : Int)).toNat = 1 from rfl] at Y6); (try rw [show 1 * 4 = 4 from rfl] at Y6); (try rw [show ((1 : Int)).toNat = 1 from rfl] at Y7); (try rw [show 1 * 4 = 4 from rfl] at Y7); (try rw [show ((1 : Int)).toNat = 1 from rfl] at Y8); (try rw [show 1 * 4 = 4 from rfl] at Y8); replace p471 := eq_true p471; replace q471 := eq_true q471))
 go_ret
 exact ⟨by first | rfl | (simp [errW_none, errW_some] <;> rfl) | (simp [*, errW_none, errW_some] <;> rfl), by exact zb0 HB⟩
set_option maxRecDepth 100000 in
theorem imageeditorlaw15_awake.known : imageeditorlaw15_awake.f 300 = some true := by decide +kernel
theorem imageeditorlaw15_awake.more (k : Nat) (r : Bool) (h : imageeditorlaw15_awake.f k = some r) : ∀ m, imageeditorlaw15_awake.f (k + m) = some r
 | 0 => h
 | m + 1 => imageeditorlaw15_awake.mono (k + m) r (imageeditorlaw15_awake.more k r h m)
theorem imageeditorlaw15_awake.det (k : Nat) (r : Bool) (h : imageeditorlaw15_awake.f k = some r) : r = true := by
 have h1 := imageeditorlaw15_awake.more k r h 300
 have h2 := imageeditorlaw15_awake.more 300 true imageeditorlaw15_awake.known k
 rw [Nat.add_comm] at h1
 exact Option.some.inj (h1.symm.trans h2)
theorem imageeditorlaw15_awake.calls (k : Nat) (r : Bool) (w : World) (h : imageeditorlaw15_awake.f k = some r) :
  Calls Try.prog 16 #[] w fun e w' => e = .returned (.bool r) ∧ Below w.heap.size w w' :=
 imageeditorlaw15_awake.callsT k r w (imageeditorlaw15_awake.det k r h) h

end Go.Proofs.Ytnfbabmceddciaa.G
