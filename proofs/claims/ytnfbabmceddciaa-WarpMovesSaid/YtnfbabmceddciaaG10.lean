/- Contracts of functions of the program, each as it is called: what it computes (.f), that it computes no less with more rounds (.mono), and that a call returns just that (.calls). No conditions but those that each contract names. Written by a program of this session (wip/gx.py over the kit's print). -/
import Derived.Test.YtnfbabmceddciaaG0
import Derived.Test.YtnfbabmceddciaaG1
import Derived.Test.YtnfbabmceddciaaG4
import Derived.Test.YtnfbabmceddciaaG8
import Derived.Test.YtnfbabmceddciaaG9
namespace Go.Proofs.Ytnfbabmceddciaa.G
open Go.RowKit Go.Proofs.YtnfbabmceddciaaW.PrintWords Go.Proofs.YtnfbabmceddciaaW.PrintLast Go.Proofs.YtnfbabmceddciaaW.PrintMore
attribute [local go_sem] max2_int min2_int max_two min_two max_three min_three max_four min_four max_five min_five   -- for this text's walks alone
set_option linter.unusedVariables false
set_option linter.unusedSimpArgs false


/-! ### kernel_Taps: function 50 -/
mutual
def kernel_Taps.l0 : Nat → Int → Int → Int → List Int → Int → Int → Int → Option (Int × List Int)
 | 0, _, _, _, _, _, _, _ => none
 | k + 1, x0, x1, x4, x5, x6, x7, x8 => if x8 < (wrap64 (x1 + x6)) then ((kernel_Weight.f k x0 (wrap64 (x1 - x8))).bind fun t290 => (if x5.length < 17592186044416 then (kernel_Taps.l0 k x0 x1 x4 (x5 ++ [t290]) x6 (wrap64 (x7 + t290)) (wrap64 (x8 + 65536))) else (none))) else (kernel_Taps.l1 k x4 x5 x7 65536 0 (x5.length : Int) 0)
def kernel_Taps.l1 : Nat → Int → List Int → Int → Int → Int → Int → Int → Option (Int × List Int)
 | 0, _, _, _, _, _, _, _ => none
 | k + 1, x4, x5, x7, x10, x11, x51, x52 => if x52 < x51 then (if 0 ≤ x52 then (if x52 < (x5.length : Int) then ((num_Div.f k (wrap64 ((rd x5 x52) * 65536)) x7).bind fun t295 => ((some (x5.set (x52 : Int).toNat t295 : List Int)).bind fun y296 => (if 0 ≤ x11 then (if x11 < (x5.length : Int) then (if (rd y296 x52) > (rd y296 x11) then (kernel_Taps.l1 k x4 y296 x7 (wrap64 (x10 - (rd y296 x52))) x52 x51 (wrap64 (x52 + 1))) else (kernel_Taps.l1 k x4 y296 x7 (wrap64 (x10 - (rd y296 x52))) x11 x51 (wrap64 (x52 + 1)))) else (none)) else (none)))) else (none)) else (none)) else (if 0 ≤ x11 then (if x11 < (x5.length : Int) then (some (x4, (x5.set (x11 : Int).toNat (wrap64 ((rd x5 x11) + x10))))) else (none)) else (none))
end
def kernel_Taps.f (k : Nat) (a0 : Int) (a1 : Int) : Option (Int × List Int) := (kernel_Valid.f a0).bind fun t286 => (if t286 = true then ((num_Clamp.f a1 (-1099511627776) 1099511627776).bind fun t287 => ((kernel_Support.f a0).bind fun t288 => ((num_Floor.f (wrap64 ((wrap64 (t287 - (wrap64 (t288 * 65536)))) - 32768)) 65536).bind fun t289 => (kernel_Taps.l0 k a0 t287 (wrap64 (t289 + 1)) ([] : List Int) (wrap64 (t288 * 65536)) 0 (wrap64 ((wrap64 ((wrap64 (t289 + 1)) * 65536)) + 32768)))))) else (some (0, ([] : List Int))))
theorem kernel_Taps.mono_l : ∀ k, (∀ y0 y1 y2 y3 y4 y5 y6, LeO (kernel_Taps.l0 k y0 y1 y2 y3 y4 y5 y6) (kernel_Taps.l0 (k + 1) y0 y1 y2 y3 y4 y5 y6)) ∧ (∀ y0 y1 y2 y3 y4 y5 y6, LeO (kernel_Taps.l1 k y0 y1 y2 y3 y4 y5 y6) (kernel_Taps.l1 (k + 1) y0 y1 y2 y3 y4 y5 y6))
 | 0 => ⟨fun _ _ _ _ _ _ _ r h => by simp [kernel_Taps.l0] at h, fun _ _ _ _ _ _ _ r h => by simp [kernel_Taps.l1] at h⟩
 | k + 1 => by
  obtain ⟨ih0, ih1⟩ := kernel_Taps.mono_l k
  refine ⟨?_, ?_⟩
  ·intro y0 y1 y2 y3 y4 y5 y6
   unfold kernel_Taps.l0
   repeat' first
   | (with_reducible exact ih0 _ _ _ _ _ _ _)
   | (with_reducible exact ih1 _ _ _ _ _ _ _)
   | (with_reducible exact kernel_Weight.mono _ _ _)
   | (with_reducible exact num_Div.mono _ _ _)
   | (with_reducible exact LeO.refl _)
   | (with_reducible exact LeO.none _)
   | (with_reducible refine LeO.ite ?_ ?_)
   | (with_reducible refine LeO.bind ?_ (fun _ => ?_))
   | exact ih0 _ _ _ _ _ _ _
   | exact ih1 _ _ _ _ _ _ _
   | exact kernel_Weight.mono _ _ _
   | exact num_Div.mono _ _ _
   | exact LeO.none _
   | refine LeO.ite ?_ ?_
   | refine LeO.bind ?_ (fun _ => ?_)
  ·intro y0 y1 y2 y3 y4 y5 y6
   unfold kernel_Taps.l1
   repeat' first
   | (with_reducible exact ih0 _ _ _ _ _ _ _)
   | (with_reducible exact ih1 _ _ _ _ _ _ _)
   | (with_reducible exact kernel_Weight.mono _ _ _)
   | (with_reducible exact num_Div.mono _ _ _)
   | (with_reducible exact LeO.refl _)
   | (with_reducible exact LeO.none _)
   | (with_reducible refine LeO.ite ?_ ?_)
   | (with_reducible refine LeO.bind ?_ (fun _ => ?_))
   | exact ih0 _ _ _ _ _ _ _
   | exact ih1 _ _ _ _ _ _ _
   | exact kernel_Weight.mono _ _ _
   | exact num_Div.mono _ _ _
   | exact LeO.none _
   | refine LeO.ite ?_ ?_
   | refine LeO.bind ?_ (fun _ => ?_)
theorem kernel_Taps.mono : ∀ a0 a1 k, LeO (kernel_Taps.f k a0 a1) (kernel_Taps.f (k + 1) a0 a1) := by
 intro a0 a1 k
 obtain ⟨ih0, ih1⟩ := kernel_Taps.mono_l k
 unfold kernel_Taps.f
 repeat' first
   | (with_reducible exact ih0 _ _ _ _ _ _ _)
   | (with_reducible exact ih1 _ _ _ _ _ _ _)
   | (with_reducible exact kernel_Weight.mono _ _ _)
   | (with_reducible exact num_Div.mono _ _ _)
   | (with_reducible exact LeO.refl _)
   | (with_reducible exact LeO.none _)
   | (with_reducible refine LeO.ite ?_ ?_)
   | (with_reducible refine LeO.bind ?_ (fun _ => ?_))
   | exact ih0 _ _ _ _ _ _ _
   | exact ih1 _ _ _ _ _ _ _
   | exact kernel_Weight.mono _ _ _
   | exact num_Div.mono _ _ _
   | exact LeO.none _
   | refine LeO.ite ?_ ?_
   | refine LeO.bind ?_ (fun _ => ?_)
set_option maxHeartbeats 8000000 in
set_option maxRecDepth 100000 in
theorem kernel_Taps.calls (k : Nat) (a0 : Int) (a1 : Int) (r1 : Int) (r2 : List Int) (w : World) (h : kernel_Taps.f k a0 a1 = some (r1, r2)) :
  Calls Try.prog 50 #[.int .i64 a0, .int .i64 a1] w fun e w' => ∃ v1_ : Value, e = .returned (.tuple #[.int .i64 r1, v1_]) ∧ Kd.R (Kd.int .i64) 3 w' w.heap.size (fun _ => True) v1_ r2 ∧ Below w.heap.size w w' := by
 have HB := Aside0.mk (Below.refl w.heap.size w)
 have H : ((kernel_Valid.f a0).bind fun t286 => (if t286 = true then ((num_Clamp.f a1 (-1099511627776) 1099511627776).bind fun t287 => ((kernel_Support.f a0).bind fun t288 => ((num_Floor.f (wrap64 ((wrap64 (t287 - (wrap64 (t288 * 65536)))) - 32768)) 65536).bind fun t289 => (kernel_Taps.l0 k a0 t287 (wrap64 (t289 + 1)) ([] : List Int) (wrap64 (t288 * 65536)) 0 (wrap64 ((wrap64 ((wrap64 (t289 + 1)) * 65536)) + 32768)))))) else (some (0, ([] : List Int))))) = some (r1, r2) := h
 clear h
 replace H := Option.bind_eq_some_iff.mp H
 obtain ⟨t286, A30, H⟩ := H
 try dsimp only at H
 have A3 := Aside0.mk A30
 clear A30
 by_cases c4 : t286 = true
 rotate_left
 ·replace c4 := Bool.eq_false_iff.mpr c4
  subst c4
  rw [if_neg (show ¬ (false = true) by decide)] at H
  simp only [Option.some.injEq, Prod.mk.injEq] at H
  obtain ⟨rfl, rfl⟩ := H
  go_enter Try.func50, Try.ntmps50
  go_wp2_with (first | (go_at_call 34; (with_reducible refine (kernel_Valid.calls a0 false _ A3.out).mono ?_); rintro e w' ⟨rfl, ⟨nd, rfl⟩⟩; (try first | exact ⟨rfl, _, World.drewN_drewN _ _ _⟩ | exact ⟨rfl, _, Eq.trans (World.drewN_drewN _ _ _) (congrArg (World.drewN _) (Nat.add_assoc _ _ _))⟩)))
  repeat (go_quiet (first | (go_at_call 34; (with_reducible refine (kernel_Valid.calls a0 false _ A3.out).mono ?_); rintro e w' ⟨rfl, ⟨nd, rfl⟩⟩; (try first | exact ⟨rfl, _, World.drewN_drewN _ _ _⟩ | exact ⟨rfl, _, Eq.trans (World.drewN_drewN _ _ _) (congrArg (World.drewN _) (Nat.add_assoc _ _ _))⟩))); try go_wp2_with (first | (go_at_call 34; (with_reducible refine (kernel_Valid.calls a0 false _ A3.out).mono ?_); rintro e w' ⟨rfl, ⟨nd, rfl⟩⟩; (try first | exact ⟨rfl, _, World.drewN_drewN _ _ _⟩ | exact ⟨rfl, _, Eq.trans (World.drewN_drewN _ _ _) (congrArg (World.drewN _) (Nat.add_assoc _ _ _))⟩))))
  go_ret2
  exact ⟨_, by first | rfl | (simp [errW_none, errW_some] <;> rfl) | (simp [*, errW_none, errW_some] <;> rfl), by first | exact Kd.R_nil _ _ _ _ _ | exact Kd.N_nil _ _ _ _ _ | exact Kd.V_nil _ _ _ _ _ | exact Kd.Q_nil _ _ _ _ _ | exact Kd.S_nil _ _ _ _ _, by exact zb0 HB⟩

 subst c4
 rw [if_pos rfl] at H
 replace H := Option.bind_eq_some_iff.mp H
 obtain ⟨t287, A50, H⟩ := H
 try dsimp only at H
 have A5 := Aside0.mk A50
 clear A50
 replace H := Option.bind_eq_some_iff.mp H
 obtain ⟨t288, A60, H⟩ := H
 try dsimp only at H
 have A6 := Aside0.mk A60
 clear A60
 replace H := Option.bind_eq_some_iff.mp H
 obtain ⟨t289, A70, H⟩ := H
 try dsimp only at H
 have A7 := Aside0.mk A70
 clear A70
 have H' := Aside0.mk H
 clear H
 go_enter Try.func50, Try.ntmps50
 go_wp2_with (first | (go_at_call 34; (with_reducible refine (kernel_Valid.calls a0 true _ A3.out).mono ?_); rintro e w' ⟨rfl, ⟨nd, rfl⟩⟩; (try first | exact ⟨rfl, _, World.drewN_drewN _ _ _⟩ | exact ⟨rfl, _, Eq.trans (World.drewN_drewN _ _ _) (congrArg (World.drewN _) (Nat.add_assoc _ _ _))⟩)) | (go_at_call 49; (with_reducible refine (num_Clamp.calls a1 (-1099511627776) 1099511627776 t287 _ A5.out).mono ?_); rintro e w8 ⟨rfl, hb⟩; replace HB := zb HB hb; (try clear hb)) | (go_at_call 39; (with_reducible refine (kernel_Support.calls a0 t288 _ A6.out).mono ?_); rintro e w' ⟨rfl, ⟨nd, rfl⟩⟩; (try first | exact ⟨rfl, _, World.drewN_drewN _ _ _⟩ | exact ⟨rfl, _, Eq.trans (World.drewN_drewN _ _ _) (congrArg (World.drewN _) (Nat.add_assoc _ _ _))⟩)) | (go_at_call 79; (with_reducible refine (num_Floor.calls (wrap64 ((wrap64 (t287 - (wrap64 (t288 * 65536)))) - 32768)) 65536 t289 _ A7.out).mono ?_); rintro e w' ⟨rfl, ⟨nd, rfl⟩⟩; (try first | exact ⟨rfl, _, World.drewN_drewN _ _ _⟩ | exact ⟨rfl, _, Eq.trans (World.drewN_drewN _ _ _) (congrArg (World.drewN _) (Nat.add_assoc _ _ _))⟩)))
 repeat (go_quiet (first | (go_at_call 34; (with_reducible refine (kernel_Valid.calls a0 true _ A3.out).mono ?_); rintro e w' ⟨rfl, ⟨nd, rfl⟩⟩; (try first | exact ⟨rfl, _, World.drewN_drewN _ _ _⟩ | exact ⟨rfl, _, Eq.trans (World.drewN_drewN _ _ _) (congrArg (World.drewN _) (Nat.add_assoc _ _ _))⟩)) | (go_at_call 49; (with_reducible refine (num_Clamp.calls a1 (-1099511627776) 1099511627776 t287 _ A5.out).mono ?_); rintro e w8 ⟨rfl, hb⟩; replace HB := zb HB hb; (try clear hb)) | (go_at_call 39; (with_reducible refine (kernel_Support.calls a0 t288 _ A6.out).mono ?_); rintro e w' ⟨rfl, ⟨nd, rfl⟩⟩; (try first | exact ⟨rfl, _, World.drewN_drewN _ _ _⟩ | exact ⟨rfl, _, Eq.trans (World.drewN_drewN _ _ _) (congrArg (World.drewN _) (Nat.add_assoc _ _ _))⟩)) | (go_at_call 79; (with_reducible refine (num_Floor.calls (wrap64 ((wrap64 (t287 - (wrap64 (t288 * 65536)))) - 32768)) 65536 t289 _ A7.out).mono ?_); rintro e w' ⟨rfl, ⟨nd, rfl⟩⟩; (try first | exact ⟨rfl, _, World.drewN_drewN _ _ _⟩ | exact ⟨rfl, _, Eq.trans (World.drewN_drewN _ _ _) (congrArg (World.drewN _) (Nat.add_assoc _ _ _))⟩))); try go_wp2_with (first | (go_at_call 34; (with_reducible refine (kernel_Valid.calls a0 true _ A3.out).mono ?_); rintro e w' ⟨rfl, ⟨nd, rfl⟩⟩; (try first | exact ⟨rfl, _, World.drewN_drewN _ _ _⟩ | exact ⟨rfl, _, Eq.trans (World.drewN_drewN _ _ _) (congrArg (World.drewN _) (Nat.add_assoc _ _ _))⟩)) | (go_at_call 49; (with_reducible refine (num_Clamp.calls a1 (-1099511627776) 1099511627776 t287 _ A5.out).mono ?_); rintro e w8 ⟨rfl, hb⟩; replace HB := zb HB hb; (try clear hb)) | (go_at_call 39; (with_reducible refine (kernel_Support.calls a0 t288 _ A6.out).mono ?_); rintro e w' ⟨rfl, ⟨nd, rfl⟩⟩; (try first | exact ⟨rfl, _, World.drewN_drewN _ _ _⟩ | exact ⟨rfl, _, Eq.trans (World.drewN_drewN _ _ _) (congrArg (World.drewN _) (Nat.add_assoc _ _ _))⟩)) | (go_at_call 79; (with_reducible refine (num_Floor.calls (wrap64 ((wrap64 (t287 - (wrap64 (t288 * 65536)))) - 32768)) 65536 t289 _ A7.out).mono ?_); rintro e w' ⟨rfl, ⟨nd, rfl⟩⟩; (try first | exact ⟨rfl, _, World.drewN_drewN _ _ _⟩ | exact ⟨rfl, _, Eq.trans (World.drewN_drewN _ _ _) (congrArg (World.drewN _) (Nat.add_assoc _ _ _))⟩))))
 (try simp only [Act.put, sA, sB, sC])
 go_loopg [5, 7, 8] k (fun kq v5 v7 v8 w' => ∃ (x5_1 : List Int) (x7_1 : Int) (x8_1 : Int), v7 = .int .i64 x7_1 ∧ v8 = .int .i64 x8_1 ∧ Aside0 (kernel_Taps.l0 kq a0 t287 (wrap64 (t289 + 1)) x5_1 (wrap64 (t288 * 65536)) x7_1 x8_1 = some (r1, r2)) ∧ Aside0 (kq ≤ k) ∧ Aside0 (Kd.R (Kd.int .i64) 3 w' w.heap.size (fun _ => True) v5 x5_1) ∧ Aside0 (Below w.heap.size w w'))
 case atStart => exact ⟨(([] : List Int)), (0), (wrap64 ((wrap64 ((wrap64 (t289 + 1)) * 65536)) + 32768)), (by first | rfl | (simp; done) | (simp [*]; done)), (by first | rfl | (simp; done) | (simp [*]; done)), H', ⟨Nat.le_refl _⟩, ⟨by first | exact Kd.R_nil _ _ _ _ _ | exact Kd.N_nil _ _ _ _ _ | exact Kd.V_nil _ _ _ _ _ | exact Kd.Q_nil _ _ _ _ _ | exact Kd.S_nil _ _ _ _ _⟩, ⟨by exact zb0 HB⟩⟩
 case round =>
  clear H'
  try clear p2
  try clear c4
  try clear c5
  try clear p6
  obtain ⟨x5_1, x7_1, x8_1, rfl, rfl, HA, HK1, E0, HB⟩ := hrel
  cases gk with
  | zero => exact absurd HA.out (by simp [kernel_Taps.l0])
  | succ k1 =>
   have H := HA.out
   clear HA
   simp only [kernel_Taps.l0] at H
   by_cases c9 : x8_1 < (wrap64 (t287 + (wrap64 (t288 * 65536))))
   ·rw [if_pos c9] at H
    have G0 : decide (x8_1 < (wrap64 (t287 + (wrap64 (t288 * 65536))))) = true := decide_eq_true c9
    clear c9
    replace H := Option.bind_eq_some_iff.mp H
    obtain ⟨t290, A100, H⟩ := H
    try dsimp only at H
    have A10 := Aside0.mk A100
    clear A100
    by_cases c11 : x5_1.length < 17592186044416
    ·rw [if_pos c11] at H
     have LMc11 := Aside0.mk c11
     clear c11
     obtain ⟨y291, hy291⟩ : ∃ y_ : List Int, y_ = (x5_1 ++ [t290]) := ⟨_, rfl⟩
     replace H : (kernel_Taps.l0 k1 a0 t287 (wrap64 (t289 + 1)) y291 (wrap64 (t288 * 65536)) (wrap64 (x7_1 + t290)) (wrap64 (x8_1 + 65536))) = some (r1, r2) := by first | (rw [hy291]; with_reducible exact H) | (have H2_ := (Option.bind_some _ _).symm.trans H; rw [hy291]; with_reducible exact H2_) | (have H2_ := (Option.bind_some _ _).symm.trans H; with_reducible exact H2_) | with_reducible exact H | (rw [hy291]; exact H) | exact H
     have Ny291 := Aside0.mk hy291
     clear hy291
     have H' := Aside0.mk H
     clear H
     go_wp2_with (first | (go_at_call 80; (with_reducible refine (kernel_Weight.calls k1 a0 (wrap64 (t287 - x8_1)) t290 _ A10.out).mono ?_); rintro e w12 ⟨rfl, hb⟩; replace E0 := zr E0 hb; replace HB := zb HB hb; (try clear hb); (try clear hk)) | ((with_reducible refine gate_builtin (b := .append) (xs := #[.tmp 43, .tmp 45]) rfl ?_); at_builtin; refine Kd.R_append (Kd.int .i64) (w0 := w) w.heap.size rfl (.tmp 43) (.tmp 45) 60 3 (.int .i64 0) 8 rfl Try.underlying60 info3 rfl (by decide) (by omega) u5 x5_1 t290 [.int .i64 t290] (fun _ => True) (fun _ => False) rfl rfl ?aP (fun _ hk => hk.elim) ?aF ?aO ?aB ?aS ?aL ?_; (case aP => exact rfl); (case aB => exact (by exact zb0 HB)); (case aF => exact (fun _ _ => trivial)); (case aO => exact (by exact zr0 E0)); (case aS => exact (below_size (by exact zb0 HB))); (case aL => have := LMc11.out; omega); intro v292 w13 ho hb hg hat; rw [← Ny291.out] at ho; have n0_ := Aside0.mk (hb); have n1_ := Aside0.mk (ho); clear HB; clear E0; have HB := n0_; have HO293 := n1_; clear n0_ n1_; clear ho hb hg hat))
     repeat (go_quiet (first | (go_at_call 80; (with_reducible refine (kernel_Weight.calls k1 a0 (wrap64 (t287 - x8_1)) t290 _ A10.out).mono ?_); rintro e w12 ⟨rfl, hb⟩; replace E0 := zr E0 hb; replace HB := zb HB hb; (try clear hb); (try clear hk)) | ((with_reducible refine gate_builtin (b := .append) (xs := #[.tmp 43, .tmp 45]) rfl ?_); at_builtin; refine Kd.R_append (Kd.int .i64) (w0 := w) w.heap.size rfl (.tmp 43) (.tmp 45) 60 3 (.int .i64 0) 8 rfl Try.underlying60 info3 rfl (by decide) (by omega) u5 x5_1 t290 [.int .i64 t290] (fun _ => True) (fun _ => False) rfl rfl ?aP (fun _ hk => hk.elim) ?aF ?aO ?aB ?aS ?aL ?_; (case aP => exact rfl); (case aB => exact (by exact zb0 HB)); (case aF => exact (fun _ _ => trivial)); (case aO => exact (by exact zr0 E0)); (case aS => exact (below_size (by exact zb0 HB))); (case aL => have := LMc11.out; omega); intro v292 w13 ho hb hg hat; rw [← Ny291.out] at ho; have n0_ := Aside0.mk (hb); have n1_ := Aside0.mk (ho); clear HB; clear E0; have HB := n0_; have HO293 := n1_; clear n0_ n1_; clear ho hb hg hat)); try go_wp2_with (first | (go_at_call 80; (with_reducible refine (kernel_Weight.calls k1 a0 (wrap64 (t287 - x8_1)) t290 _ A10.out).mono ?_); rintro e w12 ⟨rfl, hb⟩; replace E0 := zr E0 hb; replace HB := zb HB hb; (try clear hb); (try clear hk)) | ((with_reducible refine gate_builtin (b := .append) (xs := #[.tmp 43, .tmp 45]) rfl ?_); at_builtin; refine Kd.R_append (Kd.int .i64) (w0 := w) w.heap.size rfl (.tmp 43) (.tmp 45) 60 3 (.int .i64 0) 8 rfl Try.underlying60 info3 rfl (by decide) (by omega) u5 x5_1 t290 [.int .i64 t290] (fun _ => True) (fun _ => False) rfl rfl ?aP (fun _ hk => hk.elim) ?aF ?aO ?aB ?aS ?aL ?_; (case aP => exact rfl); (case aB => exact (by exact zb0 HB)); (case aF => exact (fun _ _ => trivial)); (case aO => exact (by exact zr0 E0)); (case aS => exact (below_size (by exact zb0 HB))); (case aL => have := LMc11.out; omega); intro v292 w13 ho hb hg hat; rw [← Ny291.out] at ho; have n0_ := Aside0.mk (hb); have n1_ := Aside0.mk (ho); clear HB; clear E0; have HB := n0_; have HO293 := n1_; clear n0_ n1_; clear ho hb hg hat)))
     go_roundg k1
     case measure => have := HK1.out; omega
     case rel => exact ⟨(y291), (wrap64 (x7_1 + t290)), (wrap64 (x8_1 + 65536)), (by first | rfl | (simp; done) | (simp [*]; done)), (by first | rfl | (simp; done) | (simp [*]; done)), H', ⟨by have := HK1.out; omega⟩, ⟨by exact zr0 HO293⟩, ⟨by exact zb0 HB⟩⟩
    rw [if_neg c11] at H
    exact absurd H (by simp)
   rw [if_neg c9] at H
   have G0 : decide (x8_1 < (wrap64 (t287 + (wrap64 (t288 * 65536))))) = false := decide_eq_false c9
   clear c9
   have H' := Aside0.mk H
   clear H
   obtain ⟨Ao14, co14, eo14⟩ := Kd.R_slice E0.out
   subst eo14
   go_wp2
   repeat (go_quiet (fail); try go_wp2)
   go_loopg [10, 11, 52] k1 (fun kq v10 v11 v52 w' => ∃ (x5_2 : List Int) (x10_2 : Int) (x11_2 : Int) (x52_2 : Int), v10 = .int .i64 x10_2 ∧ v11 = .int .i64 x11_2 ∧ v52 = .int .i64 x52_2 ∧ Aside0 (kernel_Taps.l1 kq (wrap64 (t289 + 1)) x5_2 x7_1 x10_2 x11_2 (x5_1.length : Int) x52_2 = some (r1, r2)) ∧ Aside0 (kq ≤ k1) ∧ Aside0 (Kd.R (Kd.int .i64) 3 w' w.heap.size (fun _ => True) (.slice Ao14 x5_1.length co14) x5_2) ∧ Aside0 (Below w.heap.size w w'))
   case atStart => exact ⟨(x5_1), (65536), (0), (0), (by first | rfl | (simp; done) | (simp [*]; done)), (by first | rfl | (simp; done) | (simp [*]; done)), (by first | rfl | (simp; done) | (simp [*]; done)), H', ⟨Nat.le_refl _⟩, ⟨by exact zr0 E0⟩, ⟨by exact zb0 HB⟩⟩
   case round =>
    clear H'
    try clear c1
    try clear p2
    try clear c4
    try clear c5
    try clear p6
    try clear c9
    try clear G0
    try clear c11
    try clear p2
    try clear p6
    obtain ⟨x5_2, x10_2, x11_2, x52_2, rfl, rfl, rfl, HA, HK2, E0, HB⟩ := hrel
    have hl5_2 := (Kd.R_reads' E0.out).1
    rw [hl5_2] at E0
    (try simp only [hl5_2])
    cases gk with
    | zero => exact absurd HA.out (by simp [kernel_Taps.l1])
    | succ k2 =>
     have H := HA.out
     clear HA
     simp only [kernel_Taps.l1] at H
     by_cases c15 : x52_2 < (x5_1.length : Int)
     rotate_left
     ·rw [if_neg c15] at H
      have G1 : decide (x52_2 < (x5_1.length : Int)) = false := decide_eq_false c15
      (try rw [hl5_2] at G1)
      clear c15
      by_cases c27 : 0 ≤ x11_2
      rotate_left
      ·rw [if_neg c27] at H
       exact absurd H (by simp)
      rw [if_pos c27] at H
      have G6 : decide (0 ≤ x11_2) = true := decide_eq_true c27
      clear c27
      by_cases c28 : x11_2 < (x5_2.length : Int)
      rotate_left
      ·rw [if_neg c28] at H
       exact absurd H (by simp)
      rw [if_pos c28] at H
      have G7 : decide (x11_2 < (x5_2.length : Int)) = true := decide_eq_true c28
      clear c28
      obtain ⟨y301, hy301⟩ : ∃ y_ : List Int, y_ = (x5_2.set (x11_2 : Int).toNat (wrap64 ((rd x5_2 x11_2) + x10_2))) := ⟨_, rfl⟩
      replace H : (some ((wrap64 (t289 + 1)), y301)) = some (r1, r2) := by first | (rw [hy301]; with_reducible exact H) | (have H2_ := (Option.bind_some _ _).symm.trans H; rw [hy301]; with_reducible exact H2_) | (have H2_ := (Option.bind_some _ _).symm.trans H; with_reducible exact H2_) | with_reducible exact H | (rw [hy301]; exact H) | exact H
      have Ny301 := Aside0.mk hy301
      clear hy301
      simp only [Option.some.injEq, Prod.mk.injEq] at H
      obtain ⟨rfl, rfl⟩ := H
      have p300 : 0 ≤ (x11_2 : Int) := of_decide_eq_true (by first | (with_reducible assumption) | assumption)
      have q300 : x11_2 < (x5_2.length : Int) := of_decide_eq_true (by first | (with_reducible assumption) | assumption)
      obtain ⟨G8, e300, G3⟩ := Kd.at_int (Kd.R_reads' E0.out).2.2 x11_2 p300 q300
      cases e300
      replace p300 := eq_true p300
      replace q300 := eq_true q300
      have p29 : 0 ≤ (x11_2 : Int) := of_decide_eq_true (by first | (with_reducible assumption) | assumption)
      have q29 : (x11_2 : Int) < ((x5_2.length : Int) : Int) := of_decide_eq_true (by first | (with_reducible assumption) | assumption)
      obtain ⟨go29, co29, eo29, G2, gl29, cl29, HG29⟩ := Kd.R_form E0.out (by omega)
      (first | cases eo29 | (injection eo29 with ea_ en_ ec_; (first | subst ea_ | (injection ea_ with ea_; subst ea_)); subst ec_; clear en_))
      have GB29 := Aside0.mk G2
      have GG29 := Aside0.mk HG29
      clear G2 gl29 HG29
      (first | simp only [add_plain] at G3 | skip)
      obtain ⟨G9, hf29_0⟩ := Kd.R_celln 0 E0.out (x11_2 : Int) p29 q29
      replace p29 := eq_true p29
      replace q29 := eq_true q29
      have HP30 := Kd.R_putg E0.out (x11_2 : Int) (wrap64 ((rd x5_2 x11_2) + x10_2))
      go_wp2_with (first | ((with_reducible refine gate_store (t := 3) (p := 87) rfl ?_); (try (rw [drewN_self wr]; generalize hq_ : World.drewN wr _ = wr; have n0_ := Aside0.mk (Kd.R_at hq_ E0.out); have n1_ := Aside0.mk (below_at hq_ HB.out); clear hq_ E0 HB; have E0 := n0_; have HB := n1_; clear n0_ n1_; (try (have HP30 := Kd.R_putg E0.out (x11_2 : Int) (wrap64 ((rd x5_2 x11_2) + x10_2)))))); refine store_event (t := 3) (p := 87) (v := ?vo_w31) (w1 := (wr.setCell ⟨go29, (x11_2 : Int).toNat, none⟩ (.int .i64 (wrap64 ((rd x5_2 x11_2) + x10_2))))) ?hg ?ho ?hn ?hr ?_; (case ho => rfl); (case hg => rfl); (case hn => rfl); (case hr => first | (go_simp; done) | (go_simp; rfl)); intro w31 hw; have hg : wr.grownBy w31 (some go29) := (by rw [hw]; exact HP30.2); have hp_ : Kd.R (Kd.int .i64) 3 w31 w.heap.size (fun _ => True) (.slice (some ⟨go29, 0, none⟩) x5_2.length co14) y301 := (by rw [hw, Ny301.out]; exact HP30.1); clear HP30; have n0_ := Aside0.mk (hp_); have n1_ := Aside0.mk ((by rw [hw]; exact below_set (HB.out) GB29.out : Below w.heap.size w w31)); clear E0; clear HB; have E0 := n0_; have HB := n1_; clear n0_ n1_; clear hg hw hp_))
      repeat (go_quiet (first | ((with_reducible refine gate_store (t := 3) (p := 87) rfl ?_); (try (rw [drewN_self wr]; generalize hq_ : World.drewN wr _ = wr; have n0_ := Aside0.mk (Kd.R_at hq_ E0.out); have n1_ := Aside0.mk (below_at hq_ HB.out); clear hq_ E0 HB; have E0 := n0_; have HB := n1_; clear n0_ n1_; (try (have HP30 := Kd.R_putg E0.out (x11_2 : Int) (wrap64 ((rd x5_2 x11_2) + x10_2)))))); refine store_event (t := 3) (p := 87) (v := ?vo_w31) (w1 := (wr.setCell ⟨go29, (x11_2 : Int).toNat, none⟩ (.int .i64 (wrap64 ((rd x5_2 x11_2) + x10_2))))) ?hg ?ho ?hn ?hr ?_; (case ho => rfl); (case hg => rfl); (case hn => rfl); (case hr => first | (go_simp; done) | (go_simp; rfl)); intro w31 hw; have hg : wr.grownBy w31 (some go29) := (by rw [hw]; exact HP30.2); have hp_ : Kd.R (Kd.int .i64) 3 w31 w.heap.size (fun _ => True) (.slice (some ⟨go29, 0, none⟩) x5_2.length co14) y301 := (by rw [hw, Ny301.out]; exact HP30.1); clear HP30; have n0_ := Aside0.mk (hp_); have n1_ := Aside0.mk ((by rw [hw]; exact below_set (HB.out) GB29.out : Below w.heap.size w w31)); clear E0; clear HB; have E0 := n0_; have HB := n1_; clear n0_ n1_; clear hg hw hp_)); try go_wp2_with (first | ((with_reducible refine gate_store (t := 3) (p := 87) rfl ?_); (try (rw [drewN_self wr]; generalize hq_ : World.drewN wr _ = wr; have n0_ := Aside0.mk (Kd.R_at hq_ E0.out); have n1_ := Aside0.mk (below_at hq_ HB.out); clear hq_ E0 HB; have E0 := n0_; have HB := n1_; clear n0_ n1_; (try (have HP30 := Kd.R_putg E0.out (x11_2 : Int) (wrap64 ((rd x5_2 x11_2) + x10_2)))))); refine store_event (t := 3) (p := 87) (v := ?vo_w31) (w1 := (wr.setCell ⟨go29, (x11_2 : Int).toNat, none⟩ (.int .i64 (wrap64 ((rd x5_2 x11_2) + x10_2))))) ?hg ?ho ?hn ?hr ?_; (case ho => rfl); (case hg => rfl); (case hn => rfl); (case hr => first | (go_simp; done) | (go_simp; rfl)); intro w31 hw; have hg : wr.grownBy w31 (some go29) := (by rw [hw]; exact HP30.2); have hp_ : Kd.R (Kd.int .i64) 3 w31 w.heap.size (fun _ => True) (.slice (some ⟨go29, 0, none⟩) x5_2.length co14) y301 := (by rw [hw, Ny301.out]; exact HP30.1); clear HP30; have n0_ := Aside0.mk (hp_); have n1_ := Aside0.mk ((by rw [hw]; exact below_set (HB.out) GB29.out : Below w.heap.size w w31)); clear E0; clear HB; have E0 := n0_; have HB := n1_; clear n0_ n1_; clear hg hw hp_)))
      go_ret2
      exact ⟨_, by first | rfl | (simp [errW_none, errW_some] <;> rfl) | (simp [*, errW_none, errW_some] <;> rfl), by exact zr0 E0, by exact zb0 HB⟩
     rw [if_pos c15] at H
     have G1 : decide (x52_2 < (x5_1.length : Int)) = true := decide_eq_true c15
     clear c15
     by_cases c16 : 0 ≤ x52_2
     rotate_left
     ·rw [if_neg c16] at H
      exact absurd H (by simp)
     rw [if_pos c16] at H
     have V0 : decide (0 ≤ x52_2) = true := decide_eq_true c16
     clear c16
     by_cases c17 : x52_2 < (x5_2.length : Int)
     rotate_left
     ·rw [if_neg c17] at H
      exact absurd H (by simp)
     rw [if_pos c17] at H
     have V1 : decide (x52_2 < (x5_2.length : Int)) = true := decide_eq_true c17
     clear c17
     replace H := Option.bind_eq_some_iff.mp H
     obtain ⟨t295, A180, H⟩ := H
     try dsimp only at H
     have A18 := Aside0.mk A180
     clear A180
     obtain ⟨y296, hy296⟩ : ∃ y_ : List Int, y_ = (x5_2.set (x52_2 : Int).toNat t295) := ⟨_, rfl⟩
     replace H : (if 0 ≤ x11_2 then (if x11_2 < (x5_2.length : Int) then (if (rd y296 x52_2) > (rd y296 x11_2) then (kernel_Taps.l1 k2 (wrap64 (t289 + 1)) y296 x7_1 (wrap64 (x10_2 - (rd y296 x52_2))) x52_2 (x5_1.length : Int) (wrap64 (x52_2 + 1))) else (kernel_Taps.l1 k2 (wrap64 (t289 + 1)) y296 x7_1 (wrap64 (x10_2 - (rd y296 x52_2))) x11_2 (x5_1.length : Int) (wrap64 (x52_2 + 1)))) else (none)) else (none)) = some (r1, r2) := by first | (rw [hy296]; with_reducible exact H) | (have H2_ := (Option.bind_some _ _).symm.trans H; rw [hy296]; with_reducible exact H2_) | (have H2_ := (Option.bind_some _ _).symm.trans H; with_reducible exact H2_) | with_reducible exact H | (rw [hy296]; exact H) | exact H
     have Ny296 := Aside0.mk hy296
     clear hy296
     by_cases c20 : 0 ≤ x11_2
     rotate_left
     ·rw [if_neg c20] at H
      exact absurd H (by simp)
     rw [if_pos c20] at H
     have V2 : decide (0 ≤ x11_2) = true := decide_eq_true c20
     clear c20
     by_cases c21 : x11_2 < (x5_2.length : Int)
     rotate_left
     ·rw [if_neg c21] at H
      exact absurd H (by simp)
     rw [if_pos c21] at H
     have V3 : decide (x11_2 < (x5_2.length : Int)) = true := decide_eq_true c21
     clear c21
     by_cases c22 : (rd y296 x52_2) > (rd y296 x11_2)
     ·rw [if_pos c22] at H
      have G4 : decide ((rd y296 x11_2) < (rd y296 x52_2)) = true := decide_eq_true c22
      clear c22
      have H' := Aside0.mk H
      clear H
      have p294 : 0 ≤ (x52_2 : Int) := of_decide_eq_true (by first | (with_reducible assumption) | assumption)
      have q294 : x52_2 < (x5_2.length : Int) := of_decide_eq_true (by first | (with_reducible assumption) | assumption)
      obtain ⟨G5, e294, E8⟩ := Kd.at_int (Kd.R_reads' E0.out).2.2 x52_2 p294 q294
      cases e294
      replace p294 := eq_true p294
      replace q294 := eq_true q294
      go_wp2_with (first | (go_at_call 67; (with_reducible refine (num_Div.calls k2 (wrap64 ((rd x5_2 x52_2) * 65536)) x7_1 t295 _ A18.out).mono ?_); rintro e w' ⟨rfl, ⟨nd, rfl⟩⟩; (try first | exact ⟨rfl, _, World.drewN_drewN _ _ _⟩ | exact ⟨rfl, _, Eq.trans (World.drewN_drewN _ _ _) (congrArg (World.drewN _) (Nat.add_assoc _ _ _))⟩); have p19 : 0 ≤ (x52_2 : Int) := of_decide_eq_true (by first | (with_reducible assumption) | assumption); have q19 : (x52_2 : Int) < ((x5_2.length : Int) : Int) := of_decide_eq_true (by first | (with_reducible assumption) | assumption); obtain ⟨go19, co19, eo19, E4, gl19, cl19, HG19⟩ := Kd.R_form E0.out (by omega); (first | cases eo19 | (injection eo19 with ea_ en_ ec_; (first | subst ea_ | (injection ea_ with ea_; subst ea_)); subst ec_; clear en_)); have GB19 := Aside0.mk E4; have GG19 := Aside0.mk HG19; clear E4 gl19 HG19; (first | simp only [add_plain] at E8 | skip); obtain ⟨E9, hf19_0⟩ := Kd.R_celln 0 E0.out (x52_2 : Int) p19 q19; replace p19 := eq_true p19; replace q19 := eq_true q19; obtain ⟨hy23_, hz23_⟩ := Kd.R_celln 0 E0.out (x52_2 : Int) (of_decide_eq_true (by first | (with_reducible assumption) | assumption)) (of_decide_eq_true (by first | (with_reducible assumption) | assumption)); have HP23 := Kd.R_putg E0.out (x52_2 : Int) t295) | ((with_reducible refine gate_store (t := 3) (p := 63) rfl ?_); (try (rw [drewN_self wr]; generalize hq_ : World.drewN wr _ = wr; have n0_ := Aside0.mk (Kd.R_at hq_ E0.out); have n1_ := Aside0.mk (below_at hq_ HB.out); clear hq_ E0 HB; have E0 := n0_; have HB := n1_; clear n0_ n1_; (try (obtain ⟨hy23_, hz23_⟩ := Kd.R_celln 0 E0.out (x52_2 : Int) (of_decide_eq_true (by first | (with_reducible assumption) | assumption)) (of_decide_eq_true (by first | (with_reducible assumption) | assumption)))); (try (have HP23 := Kd.R_putg E0.out (x52_2 : Int) t295)))); refine store_event (t := 3) (p := 63) (v := ?vo_w24) (w1 := (wr.setCell ⟨go19, (x52_2 : Int).toNat, none⟩ (.int .i64 t295))) ?hg ?ho ?hn ?hr ?_; (case ho => rfl); (case hg => rfl); (case hn => rfl); (case hr => first | (go_simp; done) | (go_simp; rfl)); intro w24 hw; have hg : wr.grownBy w24 (some go19) := (by rw [hw]; exact HP23.2); have hp_ : Kd.R (Kd.int .i64) 3 w24 w.heap.size (fun _ => True) (.slice (some ⟨go19, 0, none⟩) x5_2.length co14) y296 := (by rw [hw, Ny296.out]; exact HP23.1); clear HP23; have n0_ := Aside0.mk (hp_); have n1_ := Aside0.mk ((by rw [hw]; exact below_set (HB.out) GB19.out : Below w.heap.size w w24)); clear E0; clear HB; have E0 := n0_; have HB := n1_; clear n0_ n1_; clear hg hw hp_; have p297 : 0 ≤ (x52_2 : Int) := of_decide_eq_true (by first | (with_reducible assumption) | assumption); have q297 : x52_2 < (y296.length : Int) := (by have h_ : (x52_2 : Int) < ((x5_2.length : Int) : Int) := of_decide_eq_true (by first | (with_reducible assumption) | assumption); first | (have e_ := (Kd.R_reads' E0.out).1; omega) | simpa only [Ny296.out, List.length_set] using h_); have ql297 : ((x52_2 : Int) < ((x5_2.length : Int) : Int)) = True := eq_true (of_decide_eq_true (by first | (with_reducible assumption) | assumption)); obtain ⟨E5, e297, E1⟩ := Kd.at_int (Kd.R_reads' E0.out).2.2 x52_2 p297 q297; obtain rfl : (⟨go19, 0, none⟩ : Addr) = E5 := (by injection e297); (first | simp only [add_plain] at E1 | simp only [add_at] at E1 | simp only [Addr.add, Nat.zero_add] at E1 | skip); replace p297 := eq_true p297; replace q297 := eq_true q297; have p298 : 0 ≤ (x52_2 : Int) := of_decide_eq_true (by first | (with_reducible assumption) | assumption); have q298 : x52_2 < (y296.length : Int) := (by have h_ : (x52_2 : Int) < ((x5_2.length : Int) : Int) := of_decide_eq_true (by first | (with_reducible assumption) | assumption); first | (have e_ := (Kd.R_reads' E0.out).1; omega) | simpa only [Ny296.out, List.length_set] using h_); have ql298 : ((x52_2 : Int) < ((x5_2.length : Int) : Int)) = True := eq_true (of_decide_eq_true (by first | (with_reducible assumption) | assumption)); obtain ⟨E6, e298, E2⟩ := Kd.at_int (Kd.R_reads' E0.out).2.2 x52_2 p298 q298; obtain rfl : (⟨go19, 0, none⟩ : Addr) = E6 := (by injection e298); (first | simp only [add_plain] at E2 | simp only [add_at] at E2 | simp only [Addr.add, Nat.zero_add] at E2 | skip); replace p298 := eq_true p298; replace q298 := eq_true q298; have p299 : 0 ≤ (x11_2 : Int) := of_decide_eq_true (by first | (with_reducible assumption) | assumption); have q299 : x11_2 < (y296.length : Int) := (by have h_ : (x11_2 : Int) < ((x5_2.length : Int) : Int) := of_decide_eq_true (by first | (with_reducible assumption) | assumption); first | (have e_ := (Kd.R_reads' E0.out).1; omega) | simpa only [Ny296.out, List.length_set] using h_); have ql299 : ((x11_2 : Int) < ((x5_2.length : Int) : Int)) = True := eq_true (of_decide_eq_true (by first | (with_reducible assumption) | assumption)); obtain ⟨E7, e299, E3⟩ := Kd.at_int (Kd.R_reads' E0.out).2.2 x11_2 p299 q299; obtain rfl : (⟨go19, 0, none⟩ : Addr) = E7 := (by injection e299); (first | simp only [add_plain] at E3 | simp only [add_at] at E3 | simp only [Addr.add, Nat.zero_add] at E3 | skip); replace p299 := eq_true p299; replace q299 := eq_true q299))
      repeat (go_quiet (first | (go_at_call 67; (with_reducible refine (num_Div.calls k2 (wrap64 ((rd x5_2 x52_2) * 65536)) x7_1 t295 _ A18.out).mono ?_); rintro e w' ⟨rfl, ⟨nd, rfl⟩⟩; (try first | exact ⟨rfl, _, World.drewN_drewN _ _ _⟩ | exact ⟨rfl, _, Eq.trans (World.drewN_drewN _ _ _) (congrArg (World.drewN _) (Nat.add_assoc _ _ _))⟩); have p19 : 0 ≤ (x52_2 : Int) := of_decide_eq_true (by first | (with_reducible assumption) | assumption); have q19 : (x52_2 : Int) < ((x5_2.length : Int) : Int) := of_decide_eq_true (by first | (with_reducible assumption) | assumption); obtain ⟨go19, co19, eo19, E4, gl19, cl19, HG19⟩ := Kd.R_form E0.out (by omega); (first | cases eo19 | (injection eo19 with ea_ en_ ec_; (first | subst ea_ | (injection ea_ with ea_; subst ea_)); subst ec_; clear en_)); have GB19 := Aside0.mk E4; have GG19 := Aside0.mk HG19; clear E4 gl19 HG19; (first | simp only [add_plain] at E8 | skip); obtain ⟨E9, hf19_0⟩ := Kd.R_celln 0 E0.out (x52_2 : Int) p19 q19; replace p19 := eq_true p19; replace q19 := eq_true q19; obtain ⟨hy23_, hz23_⟩ := Kd.R_celln 0 E0.out (x52_2 : Int) (of_decide_eq_true (by first | (with_reducible assumption) | assumption)) (of_decide_eq_true (by first | (with_reducible assumption) | assumption)); have HP23 := Kd.R_putg E0.out (x52_2 : Int) t295) | ((with_reducible refine gate_store (t := 3) (p := 63) rfl ?_); (try (rw [drewN_self wr]; generalize hq_ : World.drewN wr _ = wr; have n0_ := Aside0.mk (Kd.R_at hq_ E0.out); have n1_ := Aside0.mk (below_at hq_ HB.out); clear hq_ E0 HB; have E0 := n0_; have HB := n1_; clear n0_ n1_; (try (obtain ⟨hy23_, hz23_⟩ := Kd.R_celln 0 E0.out (x52_2 : Int) (of_decide_eq_true (by first | (with_reducible assumption) | assumption)) (of_decide_eq_true (by first | (with_reducible assumption) | assumption)))); (try (have HP23 := Kd.R_putg E0.out (x52_2 : Int) t295)))); refine store_event (t := 3) (p := 63) (v := ?vo_w24) (w1 := (wr.setCell ⟨go19, (x52_2 : Int).toNat, none⟩ (.int .i64 t295))) ?hg ?ho ?hn ?hr ?_; (case ho => rfl); (case hg => rfl); (case hn => rfl); (case hr => first | (go_simp; done) | (go_simp; rfl)); intro w24 hw; have hg : wr.grownBy w24 (some go19) := (by rw [hw]; exact HP23.2); have hp_ : Kd.R (Kd.int .i64) 3 w24 w.heap.size (fun _ => True) (.slice (some ⟨go19, 0, none⟩) x5_2.length co14) y296 := (by rw [hw, Ny296.out]; exact HP23.1); clear HP23; have n0_ := Aside0.mk (hp_); have n1_ := Aside0.mk ((by rw [hw]; exact below_set (HB.out) GB19.out : Below w.heap.size w w24)); clear E0; clear HB; have E0 := n0_; have HB := n1_; clear n0_ n1_; clear hg hw hp_; have p297 : 0 ≤ (x52_2 : Int) := of_decide_eq_true (by first | (with_reducible assumption) | assumption); have q297 : x52_2 < (y296.length : Int) := (by have h_ : (x52_2 : Int) < ((x5_2.length : Int) : Int) := of_decide_eq_true (by first | (with_reducible assumption) | assumption); first | (have e_ := (Kd.R_reads' E0.out).1; omega) | simpa only [Ny296.out, List.length_set] using h_); have ql297 : ((x52_2 : Int) < ((x5_2.length : Int) : Int)) = True := eq_true (of_decide_eq_true (by first | (with_reducible assumption) | assumption)); obtain ⟨E5, e297, E1⟩ := Kd.at_int (Kd.R_reads' E0.out).2.2 x52_2 p297 q297; obtain rfl : (⟨go19, 0, none⟩ : Addr) = E5 := (by injection e297); (first | simp only [add_plain] at E1 | simp only [add_at] at E1 | simp only [Addr.add, Nat.zero_add] at E1 | skip); replace p297 := eq_true p297; replace q297 := eq_true q297; have p298 : 0 ≤ (x52_2 : Int) := of_decide_eq_true (by first | (with_reducible assumption) | assumption); have q298 : x52_2 < (y296.length : Int) := (by have h_ : (x52_2 : Int) < ((x5_2.length : Int) : Int) := of_decide_eq_true (by first | (with_reducible assumption) | assumption); first | (have e_ := (Kd.R_reads' E0.out).1; omega) | simpa only [Ny296.out, List.length_set] using h_); have ql298 : ((x52_2 : Int) < ((x5_2.length : Int) : Int)) = True := eq_true (of_decide_eq_true (by first | (with_reducible assumption) | assumption)); obtain ⟨E6, e298, E2⟩ := Kd.at_int (Kd.R_reads' E0.out).2.2 x52_2 p298 q298; obtain rfl : (⟨go19, 0, none⟩ : Addr) = E6 := (by injection e298); (first | simp only [add_plain] at E2 | simp only [add_at] at E2 | simp only [Addr.add, Nat.zero_add] at E2 | skip); replace p298 := eq_true p298; replace q298 := eq_true q298; have p299 : 0 ≤ (x11_2 : Int) := of_decide_eq_true (by first | (with_reducible assumption) | assumption); have q299 : x11_2 < (y296.length : Int) := (by have h_ : (x11_2 : Int) < ((x5_2.length : Int) : Int) := of_decide_eq_true (by first | (with_reducible assumption) | assumption); first | (have e_ := (Kd.R_reads' E0.out).1; omega) | simpa only [Ny296.out, List.length_set] using h_); have ql299 : ((x11_2 : Int) < ((x5_2.length : Int) : Int)) = True := eq_true (of_decide_eq_true (by first | (with_reducible assumption) | assumption)); obtain ⟨E7, e299, E3⟩ := Kd.at_int (Kd.R_reads' E0.out).2.2 x11_2 p299 q299; obtain rfl : (⟨go19, 0, none⟩ : Addr) = E7 := (by injection e299); (first | simp only [add_plain] at E3 | simp only [add_at] at E3 | simp only [Addr.add, Nat.zero_add] at E3 | skip); replace p299 := eq_true p299; replace q299 := eq_true q299)); try go_wp2_with (first | (go_at_call 67; (with_reducible refine (num_Div.calls k2 (wrap64 ((rd x5_2 x52_2) * 65536)) x7_1 t295 _ A18.out).mono ?_); rintro e w' ⟨rfl, ⟨nd, rfl⟩⟩; (try first | exact ⟨rfl, _, World.drewN_drewN _ _ _⟩ | exact ⟨rfl, _, Eq.trans (World.drewN_drewN _ _ _) (congrArg (World.drewN _) (Nat.add_assoc _ _ _))⟩); have p19 : 0 ≤ (x52_2 : Int) := of_decide_eq_true (by first | (with_reducible assumption) | assumption); have q19 : (x52_2 : Int) < ((x5_2.length : Int) : Int) := of_decide_eq_true (by first | (with_reducible assumption) | assumption); obtain ⟨go19, co19, eo19, E4, gl19, cl19, HG19⟩ := Kd.R_form E0.out (by omega); (first | cases eo19 | (injection eo19 with ea_ en_ ec_; (first | subst ea_ | (injection ea_ with ea_; subst ea_)); subst ec_; clear en_)); have GB19 := Aside0.mk E4; have GG19 := Aside0.mk HG19; clear E4 gl19 HG19; (first | simp only [add_plain] at E8 | skip); obtain ⟨E9, hf19_0⟩ := Kd.R_celln 0 E0.out (x52_2 : Int) p19 q19; replace p19 := eq_true p19; replace q19 := eq_true q19; obtain ⟨hy23_, hz23_⟩ := Kd.R_celln 0 E0.out (x52_2 : Int) (of_decide_eq_true (by first | (with_reducible assumption) | assumption)) (of_decide_eq_true (by first | (with_reducible assumption) | assumption)); have HP23 := Kd.R_putg E0.out (x52_2 : Int) t295) | ((with_reducible refine gate_store (t := 3) (p := 63) rfl ?_); (try (rw [drewN_self wr]; generalize hq_ : World.drewN wr _ = wr; have n0_ := Aside0.mk (Kd.R_at hq_ E0.out); have n1_ := Aside0.mk (below_at hq_ HB.out); clear hq_ E0 HB; have E0 := n0_; have HB := n1_; clear n0_ n1_; (try (obtain ⟨hy23_, hz23_⟩ := Kd.R_celln 0 E0.out (x52_2 : Int) (of_decide_eq_true (by first | (with_reducible assumption) | assumption)) (of_decide_eq_true (by first | (with_reducible assumption) | assumption)))); (try (have HP23 := Kd.R_putg E0.out (x52_2 : Int) t295)))); refine store_event (t := 3) (p := 63) (v := ?vo_w24) (w1 := (wr.setCell ⟨go19, (x52_2 : Int).toNat, none⟩ (.int .i64 t295))) ?hg ?ho ?hn ?hr ?_; (case ho => rfl); (case hg => rfl); (case hn => rfl); (case hr => first | (go_simp; done) | (go_simp; rfl)); intro w24 hw; have hg : wr.grownBy w24 (some go19) := (by rw [hw]; exact HP23.2); have hp_ : Kd.R (Kd.int .i64) 3 w24 w.heap.size (fun _ => True) (.slice (some ⟨go19, 0, none⟩) x5_2.length co14) y296 := (by rw [hw, Ny296.out]; exact HP23.1); clear HP23; have n0_ := Aside0.mk (hp_); have n1_ := Aside0.mk ((by rw [hw]; exact below_set (HB.out) GB19.out : Below w.heap.size w w24)); clear E0; clear HB; have E0 := n0_; have HB := n1_; clear n0_ n1_; clear hg hw hp_; have p297 : 0 ≤ (x52_2 : Int) := of_decide_eq_true (by first | (with_reducible assumption) | assumption); have q297 : x52_2 < (y296.length : Int) := (by have h_ : (x52_2 : Int) < ((x5_2.length : Int) : Int) := of_decide_eq_true (by first | (with_reducible assumption) | assumption); first | (have e_ := (Kd.R_reads' E0.out).1; omega) | simpa only [Ny296.out, List.length_set] using h_); have ql297 : ((x52_2 : Int) < ((x5_2.length : Int) : Int)) = True := eq_true (of_decide_eq_true (by first | (with_reducible assumption) | assumption)); obtain ⟨E5, e297, E1⟩ := Kd.at_int (Kd.R_reads' E0.out).2.2 x52_2 p297 q297; obtain rfl : (⟨go19, 0, none⟩ : Addr) = E5 := (by injection e297); (first | simp only [add_plain] at E1 | simp only [add_at] at E1 | simp only [Addr.add, Nat.zero_add] at E1 | skip); replace p297 := eq_true p297; replace q297 := eq_true q297; have p298 : 0 ≤ (x52_2 : Int) := of_decide_eq_true (by first | (with_reducible assumption) | assumption); have q298 : x52_2 < (y296.length : Int) := (by have h_ : (x52_2 : Int) < ((x5_2.length : Int) : Int) := of_decide_eq_true (by first | (with_reducible assumption) | assumption); first | (have e_ := (Kd.R_reads' E0.out).1; omega) | simpa only [Ny296.out, List.length_set] using h_); have ql298 : ((x52_2 : Int) < ((x5_2.length : Int) : Int)) = True := eq_true (of_decide_eq_true (by first | (with_reducible assumption) | assumption)); obtain ⟨E6, e298, E2⟩ := Kd.at_int (Kd.R_reads' E0.out).2.2 x52_2 p298 q298; obtain rfl : (⟨go19, 0, none⟩ : Addr) = E6 := (by injection e298); (first | simp only [add_plain] at E2 | simp only [add_at] at E2 | simp only [Addr.add, Nat.zero_add] at E2 | skip); replace p298 := eq_true p298; replace q298 := eq_true q298; have p299 : 0 ≤ (x11_2 : Int) := of_decide_eq_true (by first | (with_reducible assumption) | assumption); have q299 : x11_2 < (y296.length : Int) := (by have h_ : (x11_2 : Int) < ((x5_2.length : Int) : Int) := of_decide_eq_true (by first | (with_reducible assumption) | assumption); first | (have e_ := (Kd.R_reads' E0.out).1; omega) | simpa only [Ny296.out, List.length_set] using h_); have ql299 : ((x11_2 : Int) < ((x5_2.length : Int) : Int)) = True := eq_true (of_decide_eq_true (by first | (with_reducible assumption) | assumption)); obtain ⟨E7, e299, E3⟩ := Kd.at_int (Kd.R_reads' E0.out).2.2 x11_2 p299 q299; obtain rfl : (⟨go19, 0, none⟩ : Addr) = E7 := (by injection e299); (first | simp only [add_plain] at E3 | simp only [add_at] at E3 | simp only [Addr.add, Nat.zero_add] at E3 | skip); replace p299 := eq_true p299; replace q299 := eq_true q299)))
      (try simp only [← hl5_2])
      go_roundg k2
      case measure => have := HK1.out; have := HK2.out; omega
      case rel => exact ⟨(y296), (wrap64 (x10_2 - (rd y296 x52_2))), (x52_2), (wrap64 (x52_2 + 1)), (by first | rfl | (simp; done) | (simp [*]; done)), (by first | rfl | (simp; done) | (simp [*]; done)), (by first | rfl | (simp; done) | (simp [*]; done)), H', ⟨by have := HK1.out; have := HK2.out; omega⟩, ⟨by (try simp only [hl5_2]); exact zr0 E0⟩, ⟨by exact zb0 HB⟩⟩
     rw [if_neg c22] at H
     have G4 : decide ((rd y296 x11_2) < (rd y296 x52_2)) = false := decide_eq_false c22
     clear c22
     have H' := Aside0.mk H
     clear H
     have p294 : 0 ≤ (x52_2 : Int) := of_decide_eq_true (by first | (with_reducible assumption) | assumption)
     have q294 : x52_2 < (x5_2.length : Int) := of_decide_eq_true (by first | (with_reducible assumption) | assumption)
     obtain ⟨G5, e294, E8⟩ := Kd.at_int (Kd.R_reads' E0.out).2.2 x52_2 p294 q294
     cases e294
     replace p294 := eq_true p294
     replace q294 := eq_true q294
     go_wp2_with (first | (go_at_call 67; (with_reducible refine (num_Div.calls k2 (wrap64 ((rd x5_2 x52_2) * 65536)) x7_1 t295 _ A18.out).mono ?_); rintro e w' ⟨rfl, ⟨nd, rfl⟩⟩; (try first | exact ⟨rfl, _, World.drewN_drewN _ _ _⟩ | exact ⟨rfl, _, Eq.trans (World.drewN_drewN _ _ _) (congrArg (World.drewN _) (Nat.add_assoc _ _ _))⟩); have p19 : 0 ≤ (x52_2 : Int) := of_decide_eq_true (by first | (with_reducible assumption) | assumption); have q19 : (x52_2 : Int) < ((x5_2.length : Int) : Int) := of_decide_eq_true (by first | (with_reducible assumption) | assumption); obtain ⟨go19, co19, eo19, E4, gl19, cl19, HG19⟩ := Kd.R_form E0.out (by omega); (first | cases eo19 | (injection eo19 with ea_ en_ ec_; (first | subst ea_ | (injection ea_ with ea_; subst ea_)); subst ec_; clear en_)); have GB19 := Aside0.mk E4; have GG19 := Aside0.mk HG19; clear E4 gl19 HG19; (first | simp only [add_plain] at E8 | skip); obtain ⟨E9, hf19_0⟩ := Kd.R_celln 0 E0.out (x52_2 : Int) p19 q19; replace p19 := eq_true p19; replace q19 := eq_true q19; obtain ⟨hy25_, hz25_⟩ := Kd.R_celln 0 E0.out (x52_2 : Int) (of_decide_eq_true (by first | (with_reducible assumption) | assumption)) (of_decide_eq_true (by first | (with_reducible assumption) | assumption)); have HP25 := Kd.R_putg E0.out (x52_2 : Int) t295) | ((with_reducible refine gate_store (t := 3) (p := 63) rfl ?_); (try (rw [drewN_self wr]; generalize hq_ : World.drewN wr _ = wr; have n0_ := Aside0.mk (Kd.R_at hq_ E0.out); have n1_ := Aside0.mk (below_at hq_ HB.out); clear hq_ E0 HB; have E0 := n0_; have HB := n1_; clear n0_ n1_; (try (obtain ⟨hy25_, hz25_⟩ := Kd.R_celln 0 E0.out (x52_2 : Int) (of_decide_eq_true (by first | (with_reducible assumption) | assumption)) (of_decide_eq_true (by first | (with_reducible assumption) | assumption)))); (try (have HP25 := Kd.R_putg E0.out (x52_2 : Int) t295)))); refine store_event (t := 3) (p := 63) (v := ?vo_w26) (w1 := (wr.setCell ⟨go19, (x52_2 : Int).toNat, none⟩ (.int .i64 t295))) ?hg ?ho ?hn ?hr ?_; (case ho => rfl); (case hg => rfl); (case hn => rfl); (case hr => first | (go_simp; done) | (go_simp; rfl)); intro w26 hw; have hg : wr.grownBy w26 (some go19) := (by rw [hw]; exact HP25.2); have hp_ : Kd.R (Kd.int .i64) 3 w26 w.heap.size (fun _ => True) (.slice (some ⟨go19, 0, none⟩) x5_2.length co14) y296 := (by rw [hw, Ny296.out]; exact HP25.1); clear HP25; have n0_ := Aside0.mk (hp_); have n1_ := Aside0.mk ((by rw [hw]; exact below_set (HB.out) GB19.out : Below w.heap.size w w26)); clear E0; clear HB; have E0 := n0_; have HB := n1_; clear n0_ n1_; clear hg hw hp_; have p297 : 0 ≤ (x52_2 : Int) := of_decide_eq_true (by first | (with_reducible assumption) | assumption); have q297 : x52_2 < (y296.length : Int) := (by have h_ : (x52_2 : Int) < ((x5_2.length : Int) : Int) := of_decide_eq_true (by first | (with_reducible assumption) | assumption); first | (have e_ := (Kd.R_reads' E0.out).1; omega) | simpa only [Ny296.out, List.length_set] using h_); have ql297 : ((x52_2 : Int) < ((x5_2.length : Int) : Int)) = True := eq_true (of_decide_eq_true (by first | (with_reducible assumption) | assumption)); obtain ⟨E5, e297, E1⟩ := Kd.at_int (Kd.R_reads' E0.out).2.2 x52_2 p297 q297; obtain rfl : (⟨go19, 0, none⟩ : Addr) = E5 := (by injection e297); (first | simp only [add_plain] at E1 | simp only [add_at] at E1 | simp only [Addr.add, Nat.zero_add] at E1 | skip); replace p297 := eq_true p297; replace q297 := eq_true q297; have p298 : 0 ≤ (x52_2 : Int) := of_decide_eq_true (by first | (with_reducible assumption) | assumption); have q298 : x52_2 < (y296.length : Int) := (by have h_ : (x52_2 : Int) < ((x5_2.length : Int) : Int) := of_decide_eq_true (by first | (with_reducible assumption) | assumption); first | (have e_ := (Kd.R_reads' E0.out).1; omega) | simpa only [Ny296.out, List.length_set] using h_); have ql298 : ((x52_2 : Int) < ((x5_2.length : Int) : Int)) = True := eq_true (of_decide_eq_true (by first | (with_reducible assumption) | assumption)); obtain ⟨E6, e298, E2⟩ := Kd.at_int (Kd.R_reads' E0.out).2.2 x52_2 p298 q298; obtain rfl : (⟨go19, 0, none⟩ : Addr) = E6 := (by injection e298); (first | simp only [add_plain] at E2 | simp only [add_at] at E2 | simp only [Addr.add, Nat.zero_add] at E2 | skip); replace p298 := eq_true p298; replace q298 := eq_true q298; have p299 : 0 ≤ (x11_2 : Int) := of_decide_eq_true (by first | (with_reducible assumption) | assumption); have q299 : x11_2 < (y296.length : Int) := (by have h_ : (x11_2 : Int) < ((x5_2.length : Int) : Int) := of_decide_eq_true (by first | (with_reducible assumption) | assumption); first | (have e_ := (Kd.R_reads' E0.out).1; omega) | simpa only [Ny296.out, List.length_set] using h_); have ql299 : ((x11_2 : Int) < ((x5_2.length : Int) : Int)) = True := eq_true (of_decide_eq_true (by first | (with_reducible assumption) | assumption)); obtain ⟨E7, e299, E3⟩ := Kd.at_int (Kd.R_reads' E0.out).2.2 x11_2 p299 q299; obtain rfl : (⟨go19, 0, none⟩ : Addr) = E7 := (by injection e299); (first | simp only [add_plain] at E3 | simp only [add_at] at E3 | simp only [Addr.add, Nat.zero_add] at E3 | skip); replace p299 := eq_true p299; replace q299 := eq_true q299))
     repeat (go_quiet (first | (go_at_call 67; (with_reducible refine (num_Div.calls k2 (wrap64 ((rd x5_2 x52_2) * 65536)) x7_1 t295 _ A18.out).mono ?_); rintro e w' ⟨rfl, ⟨nd, rfl⟩⟩; (try first | exact ⟨rfl, _, World.drewN_drewN _ _ _⟩ | exact ⟨rfl, _, Eq.trans (World.drewN_drewN _ _ _) (congrArg (World.drewN _) (Nat.add_assoc _ _ _))⟩); have p19 : 0 ≤ (x52_2 : Int) := of_decide_eq_true (by first | (with_reducible assumption) | assumption); have q19 : (x52_2 : Int) < ((x5_2.length : Int) : Int) := of_decide_eq_true (by first | (with_reducible assumption) | assumption); obtain ⟨go19, co19, eo19, E4, gl19, cl19, HG19⟩ := Kd.R_form E0.out (by omega); (first | cases eo19 | (injection eo19 with ea_ en_ ec_; (first | subst ea_ | (injection ea_ with ea_; subst ea_)); subst ec_; clear en_)); have GB19 := Aside0.mk E4; have GG19 := Aside0.mk HG19; clear E4 gl19 HG19; (first | simp only [add_plain] at E8 | skip); obtain ⟨E9, hf19_0⟩ := Kd.R_celln 0 E0.out (x52_2 : Int) p19 q19; replace p19 := eq_true p19; replace q19 := eq_true q19; obtain ⟨hy25_, hz25_⟩ := Kd.R_celln 0 E0.out (x52_2 : Int) (of_decide_eq_true (by first | (with_reducible assumption) | assumption)) (of_decide_eq_true (by first | (with_reducible assumption) | assumption)); have HP25 := Kd.R_putg E0.out (x52_2 : Int) t295) | ((with_reducible refine gate_store (t := 3) (p := 63) rfl ?_); (try (rw [drewN_self wr]; generalize hq_ : World.drewN wr _ = wr; have n0_ := Aside0.mk (Kd.R_at hq_ E0.out); have n1_ := Aside0.mk (below_at hq_ HB.out); clear hq_ E0 HB; have E0 := n0_; have HB := n1_; clear n0_ n1_; (try (obtain ⟨hy25_, hz25_⟩ := Kd.R_celln 0 E0.out (x52_2 : Int) (of_decide_eq_true (by first | (with_reducible assumption) | assumption)) (of_decide_eq_true (by first | (with_reducible assumption) | assumption)))); (try (have HP25 := Kd.R_putg E0.out (x52_2 : Int) t295)))); refine store_event (t := 3) (p := 63) (v := ?vo_w26) (w1 := (wr.setCell ⟨go19, (x52_2 : Int).toNat, none⟩ (.int .i64 t295))) ?hg ?ho ?hn ?hr ?_; (case ho => rfl); (case hg => rfl); (case hn => rfl); (case hr => first | (go_simp; done) | (go_simp; rfl)); intro w26 hw; have hg : wr.grownBy w26 (some go19) := (by rw [hw]; exact HP25.2); have hp_ : Kd.R (Kd.int .i64) 3 w26 w.heap.size (fun _ => True) (.slice (some ⟨go19, 0, none⟩) x5_2.length co14) y296 := (by rw [hw, Ny296.out]; exact HP25.1); clear HP25; have n0_ := Aside0.mk (hp_); have n1_ := Aside0.mk ((by rw [hw]; exact below_set (HB.out) GB19.out : Below w.heap.size w w26)); clear E0; clear HB; have E0 := n0_; have HB := n1_; clear n0_ n1_; clear hg hw hp_; have p297 : 0 ≤ (x52_2 : Int) := of_decide_eq_true (by first | (with_reducible assumption) | assumption); have q297 : x52_2 < (y296.length : Int) := (by have h_ : (x52_2 : Int) < ((x5_2.length : Int) : Int) := of_decide_eq_true (by first | (with_reducible assumption) | assumption); first | (have e_ := (Kd.R_reads' E0.out).1; omega) | simpa only [Ny296.out, List.length_set] using h_); have ql297 : ((x52_2 : Int) < ((x5_2.length : Int) : Int)) = True := eq_true (of_decide_eq_true (by first | (with_reducible assumption) | assumption)); obtain ⟨E5, e297, E1⟩ := Kd.at_int (Kd.R_reads' E0.out).2.2 x52_2 p297 q297; obtain rfl : (⟨go19, 0, none⟩ : Addr) = E5 := (by injection e297); (first | simp only [add_plain] at E1 | simp only [add_at] at E1 | simp only [Addr.add, Nat.zero_add] at E1 | skip); replace p297 := eq_true p297; replace q297 := eq_true q297; have p298 : 0 ≤ (x52_2 : Int) := of_decide_eq_true (by first | (with_reducible assumption) | assumption); have q298 : x52_2 < (y296.length : Int) := (by have h_ : (x52_2 : Int) < ((x5_2.length : Int) : Int) := of_decide_eq_true (by first | (with_reducible assumption) | assumption); first | (have e_ := (Kd.R_reads' E0.out).1; omega) | simpa only [Ny296.out, List.length_set] using h_); have ql298 : ((x52_2 : Int) < ((x5_2.length : Int) : Int)) = True := eq_true (of_decide_eq_true (by first | (with_reducible assumption) | assumption)); obtain ⟨E6, e298, E2⟩ := Kd.at_int (Kd.R_reads' E0.out).2.2 x52_2 p298 q298; obtain rfl : (⟨go19, 0, none⟩ : Addr) = E6 := (by injection e298); (first | simp only [add_plain] at E2 | simp only [add_at] at E2 | simp only [Addr.add, Nat.zero_add] at E2 | skip); replace p298 := eq_true p298; replace q298 := eq_true q298; have p299 : 0 ≤ (x11_2 : Int) := of_decide_eq_true (by first | (with_reducible assumption) | assumption); have q299 : x11_2 < (y296.length : Int) := (by have h_ : (x11_2 : Int) < ((x5_2.length : Int) : Int) := of_decide_eq_true (by first | (with_reducible assumption) | assumption); first | (have e_ := (Kd.R_reads' E0.out).1; omega) | simpa only [Ny296.out, List.length_set] using h_); have ql299 : ((x11_2 : Int) < ((x5_2.length : Int) : Int)) = True := eq_true (of_decide_eq_true (by first | (with_reducible assumption) | assumption)); obtain ⟨E7, e299, E3⟩ := Kd.at_int (Kd.R_reads' E0.out).2.2 x11_2 p299 q299; obtain rfl : (⟨go19, 0, none⟩ : Addr) = E7 := (by injection e299); (first | simp only [add_plain] at E3 | simp only [add_at] at E3 | simp only [Addr.add, Nat.zero_add] at E3 | skip); replace p299 := eq_true p299; replace q299 := eq_true q299)); try go_wp2_with (first | (go_at_call 67; (with_reducible refine (num_Div.calls k2 (wrap64 ((rd x5_2 x52_2) * 65536)) x7_1 t295 _ A18.out).mono ?_); rintro e w' ⟨rfl, ⟨nd, rfl⟩⟩; (try first | exact ⟨rfl, _, World.drewN_drewN _ _ _⟩ | exact ⟨rfl, _, Eq.trans (World.drewN_drewN _ _ _) (congrArg (World.drewN _) (Nat.add_assoc _ _ _))⟩); have p19 : 0 ≤ (x52_2 : Int) := of_decide_eq_true (by first | (with_reducible assumption) | assumption); have q19 : (x52_2 : Int) < ((x5_2.length : Int) : Int) := of_decide_eq_true (by first | (with_reducible assumption) | assumption); obtain ⟨go19, co19, eo19, E4, gl19, cl19, HG19⟩ := Kd.R_form E0.out (by omega); (first | cases eo19 | (injection eo19 with ea_ en_ ec_; (first | subst ea_ | (injection ea_ with ea_; subst ea_)); subst ec_; clear en_)); have GB19 := Aside0.mk E4; have GG19 := Aside0.mk HG19; clear E4 gl19 HG19; (first | simp only [add_plain] at E8 | skip); obtain ⟨E9, hf19_0⟩ := Kd.R_celln 0 E0.out (x52_2 : Int) p19 q19; replace p19 := eq_true p19; replace q19 := eq_true q19; obtain ⟨hy25_, hz25_⟩ := Kd.R_celln 0 E0.out (x52_2 : Int) (of_decide_eq_true (by first | (with_reducible assumption) | assumption)) (of_decide_eq_true (by first | (with_reducible assumption) | assumption)); have HP25 := Kd.R_putg E0.out (x52_2 : Int) t295) | ((with_reducible refine gate_store (t := 3) (p := 63) rfl ?_); (try (rw [drewN_self wr]; generalize hq_ : World.drewN wr _ = wr; have n0_ := Aside0.mk (Kd.R_at hq_ E0.out); have n1_ := Aside0.mk (below_at hq_ HB.out); clear hq_ E0 HB; have E0 := n0_; have HB := n1_; clear n0_ n1_; (try (obtain ⟨hy25_, hz25_⟩ := Kd.R_celln 0 E0.out (x52_2 : Int) (of_decide_eq_true (by first | (with_reducible assumption) | assumption)) (of_decide_eq_true (by first | (with_reducible assumption) | assumption)))); (try (have HP25 := Kd.R_putg E0.out (x52_2 : Int) t295)))); refine store_event (t := 3) (p := 63) (v := ?vo_w26) (w1 := (wr.setCell ⟨go19, (x52_2 : Int).toNat, none⟩ (.int .i64 t295))) ?hg ?ho ?hn ?hr ?_; (case ho => rfl); (case hg => rfl); (case hn => rfl); (case hr => first | (go_simp; done) | (go_simp; rfl)); intro w26 hw; have hg : wr.grownBy w26 (some go19) := (by rw [hw]; exact HP25.2); have hp_ : Kd.R (Kd.int .i64) 3 w26 w.heap.size (fun _ => True) (.slice (some ⟨go19, 0, none⟩) x5_2.length co14) y296 := (by rw [hw, Ny296.out]; exact HP25.1); clear HP25; have n0_ := Aside0.mk (hp_); have n1_ := Aside0.mk ((by rw [hw]; exact below_set (HB.out) GB19.out : Below w.heap.size w w26)); clear E0; clear HB; have E0 := n0_; have HB := n1_; clear n0_ n1_; clear hg hw hp_; have p297 : 0 ≤ (x52_2 : Int) := of_decide_eq_true (by first | (with_reducible assumption) | assumption); have q297 : x52_2 < (y296.length : Int) := (by have h_ : (x52_2 : Int) < ((x5_2.length : Int) : Int) := of_decide_eq_true (by first | (with_reducible assumption) | assumption); first | (have e_ := (Kd.R_reads' E0.out).1; omega) | simpa only [Ny296.out, List.length_set] using h_); have ql297 : ((x52_2 : Int) < ((x5_2.length : Int) : Int)) = True := eq_true (of_decide_eq_true (by first | (with_reducible assumption) | assumption)); obtain ⟨E5, e297, E1⟩ := Kd.at_int (Kd.R_reads' E0.out).2.2 x52_2 p297 q297; obtain rfl : (⟨go19, 0, none⟩ : Addr) = E5 := (by injection e297); (first | simp only [add_plain] at E1 | simp only [add_at] at E1 | simp only [Addr.add, Nat.zero_add] at E1 | skip); replace p297 := eq_true p297; replace q297 := eq_true q297; have p298 : 0 ≤ (x52_2 : Int) := of_decide_eq_true (by first | (with_reducible assumption) | assumption); have q298 : x52_2 < (y296.length : Int) := (by have h_ : (x52_2 : Int) < ((x5_2.length : Int) : Int) := of_decide_eq_true (by first | (with_reducible assumption) | assumption); first | (have e_ := (Kd.R_reads' E0.out).1; omega) | simpa only [Ny296.out, List.length_set] using h_); have ql298 : ((x52_2 : Int) < ((x5_2.length : Int) : Int)) = True := eq_true (of_decide_eq_true (by first | (with_reducible assumption) | assumption)); obtain ⟨E6, e298, E2⟩ := Kd.at_int (Kd.R_reads' E0.out).2.2 x52_2 p298 q298; obtain rfl : (⟨go19, 0, none⟩ : Addr) = E6 := (by injection e298); (first | simp only [add_plain] at E2 | simp only [add_at] at E2 | simp only [Addr.add, Nat.zero_add] at E2 | skip); replace p298 := eq_true p298; replace q298 := eq_true q298; have p299 : 0 ≤ (x11_2 : Int) := of_decide_eq_true (by first | (with_reducible assumption) | assumption); have q299 : x11_2 < (y296.length : Int) := (by have h_ : (x11_2 : Int) < ((x5_2.length : Int) : Int) := of_decide_eq_true (by first | (with_reducible assumption) | assumption); first | (have e_ := (Kd.R_reads' E0.out).1; omega) | simpa only [Ny296.out, List.length_set] using h_); have ql299 : ((x11_2 : Int) < ((x5_2.length : Int) : Int)) = True := eq_true (of_decide_eq_true (by first | (with_reducible assumption) | assumption)); obtain ⟨E7, e299, E3⟩ := Kd.at_int (Kd.R_reads' E0.out).2.2 x11_2 p299 q299; obtain rfl : (⟨go19, 0, none⟩ : Addr) = E7 := (by injection e299); (first | simp only [add_plain] at E3 | simp only [add_at] at E3 | simp only [Addr.add, Nat.zero_add] at E3 | skip); replace p299 := eq_true p299; replace q299 := eq_true q299)))
     (try simp only [← hl5_2])
     go_roundg k2
     case measure => have := HK1.out; have := HK2.out; omega
     case rel => exact ⟨(y296), (wrap64 (x10_2 - (rd y296 x52_2))), (x11_2), (wrap64 (x52_2 + 1)), (by first | rfl | (simp; done) | (simp [*]; done)), (by first | rfl | (simp; done) | (simp [*]; done)), (by first | rfl | (simp; done) | (simp [*]; done)), H', ⟨by have := HK1.out; have := HK2.out; omega⟩, ⟨by (try simp only [hl5_2]); exact zr0 E0⟩, ⟨by exact zb0 HB⟩⟩
/-! ### warp_sums_add: function 51 -/
def warp_sums_add.f (s0_0 : Int) (s0_1 : Int) (s0_2 : Int) (s0_3 : Int) (s0_4 : Int) (s0_5 : Int) (s0_6 : Int) (a1_0 : Int) (a1_1 : Int) (a1_2 : Int) (a1_3 : Int) (a2 : Int) : Option (Int × Int × Int × Int × Int × Int × Int) := some (wrap64 (s0_0 + (wrap64 (a2 * a1_3))), wrap64 (s0_1 + (wrap64 ((wrap64 (a2 * a1_3)) * (a1_0 / 256)))), wrap64 (s0_2 + (wrap64 ((wrap64 (a2 * a1_3)) * (a1_1 / 256)))), wrap64 (s0_3 + (wrap64 ((wrap64 (a2 * a1_3)) * (a1_2 / 256)))), wrap64 (s0_4 + (wrap64 ((wrap64 (a2 * a1_3)) * (Go.bits .and .i64 a1_0 255)))), wrap64 (s0_5 + (wrap64 ((wrap64 (a2 * a1_3)) * (Go.bits .and .i64 a1_1 255)))), wrap64 (s0_6 + (wrap64 ((wrap64 (a2 * a1_3)) * (Go.bits .and .i64 a1_2 255)))))
set_option maxHeartbeats 8000000 in
set_option maxRecDepth 100000 in
theorem warp_sums_add.calls (g : Nat) (s0_0 : Int) (s0_1 : Int) (s0_2 : Int) (s0_3 : Int) (s0_4 : Int) (s0_5 : Int) (s0_6 : Int) (a1_0 : Int) (a1_1 : Int) (a1_2 : Int) (a1_3 : Int) (a2 : Int) (r1 : Int) (r2 : Int) (r3 : Int) (r4 : Int) (r5 : Int) (r6 : Int) (r7 : Int) (w0 w : World) (hI : IsS72 w0 w g s0_0 s0_1 s0_2 s0_3 s0_4 s0_5 s0_6) (hB : Below w0.heap.size w0 w) (h : warp_sums_add.f s0_0 s0_1 s0_2 s0_3 s0_4 s0_5 s0_6 a1_0 a1_1 a1_2 a1_3 a2 = some (r1, r2, r3, r4, r5, r6, r7)) :
  Calls Try.prog 51 #[.pointer (some ⟨g, 0, none⟩), .agg #[.int .i64 a1_0, .int .i64 a1_1, .int .i64 a1_2, .int .i64 a1_3], .int .i64 a2] w fun e w' => e = .returned (.tuple #[]) ∧ IsS72 w0 w' g r1 r2 r3 r4 r5 r6 r7 ∧ Below w0.heap.size w0 w' ∧ KeepBut w w' g none := by
 have hix70_0 : ∀ (e0 e1 e2 : Value) (w : World), (Instr.index 70 (.agg #[e0, e1, e2]) (.int .i64 0)).run Try.prog w = .ok e0 w := fun _ _ _ _ => by kernel_rfl
 have hix70_1 : ∀ (e0 e1 e2 : Value) (w : World), (Instr.index 70 (.agg #[e0, e1, e2]) (.int .i64 1)).run Try.prog w = .ok e1 w := fun _ _ _ _ => by kernel_rfl
 have hix70_2 : ∀ (e0 e1 e2 : Value) (w : World), (Instr.index 70 (.agg #[e0, e1, e2]) (.int .i64 2)).run Try.prog w = .ok e2 w := fun _ _ _ _ => by kernel_rfl
 have hu48 := Try.underlying48
 have hu70 := Try.underlying70
 have HI0 := Aside0.mk hI
 have HK := Aside0.mk (KeepBut.refl w g none)
 have HL := Aside0.mk hB.size
 clear hI
 have HW0 := Aside0.mk hB.size
 have HB := Aside0.mk hB
 clear hB
 have H : (some (wrap64 (s0_0 + (wrap64 (a2 * a1_3))), wrap64 (s0_1 + (wrap64 ((wrap64 (a2 * a1_3)) * (a1_0 / 256)))), wrap64 (s0_2 + (wrap64 ((wrap64 (a2 * a1_3)) * (a1_1 / 256)))), wrap64 (s0_3 + (wrap64 ((wrap64 (a2 * a1_3)) * (a1_2 / 256)))), wrap64 (s0_4 + (wrap64 ((wrap64 (a2 * a1_3)) * (Go.bits .and .i64 a1_0 255)))), wrap64 (s0_5 + (wrap64 ((wrap64 (a2 * a1_3)) * (Go.bits .and .i64 a1_1 255)))), wrap64 (s0_6 + (wrap64 ((wrap64 (a2 * a1_3)) * (Go.bits .and .i64 a1_2 255)))))) = some (r1, r2, r3, r4, r5, r6, r7) := h
 clear h
 simp only [Option.some.injEq, Prod.mk.injEq] at H
 obtain ⟨rfl, rfl, rfl, rfl, rfl, rfl, rfl⟩ := H
 go_enter Try.func51, Try.ntmps51
 go_wp2_with (first | ((with_reducible refine gate_dst (N := 4) rfl ?_); refine box_event ?hg (N := 4) ?hd (cs := #[.int .i64 a1_0, .int .i64 a1_1, .int .i64 a1_2, .int .i64 a1_3]) (t := 48) ?hr ?_; (case hd => rfl); (case hg => rfl); (case hr => first | (go_simp; done) | (go_simp; rfl)); intro E0 hg w4 hbox hb; have n0_ := Aside0.mk (IsS72.below (by repeat (first | (with_reducible first | exact HI0.out | apply IsS72.alloc | apply IsS72.drewN | apply IsS72.drew | apply IsS72.set_0 | apply IsS72.set_1 | apply IsS72.set_2 | apply IsS72.set_3 | apply IsS72.set_4 | apply IsS72.set_5 | apply IsS72.set_6) | exact HI0.out)) hb); have n1_ := Aside0.mk (KeepBut.trans (by repeat (first | (with_reducible first | exact HK.out | apply KeepBut.set_ | apply keep_drewN | apply keep_drew | apply keep_alloc) | exact HK.out)) (KeepBut.of_below hb g none) (.inl rfl)); have n2_ := Aside0.mk (below_step (by repeat (first | (with_reducible first | exact HB.out | apply below_alloc | apply pw_below_drewN | apply below_drew1 | refine below_set ?_ (IsS72.ge HI0.out)) | exact HB.out)) hb); have n3_ := Aside0.mk (hbox); have n4_ := Aside0.mk ((by rw [hg]; exact (keep_size (w := w) (g := g) (row := none) (by repeat (first | (with_reducible first | exact HK.out | apply KeepBut.set_ | apply keep_drewN | apply keep_drew | apply keep_alloc) | exact HK.out))) : w.heap.size ≤ E0)); have n5_ := Aside0.mk ((Nat.le_trans HW0.out (by rw [hg]; exact (keep_size (w := w) (g := g) (row := none) (by repeat (first | (with_reducible first | exact HK.out | apply KeepBut.set_ | apply keep_drewN | apply keep_drew | apply keep_alloc) | exact HK.out))) : w.heap.size ≤ E0) : w0.heap.size ≤ E0)); have n6_ := Aside0.mk ((by rw [hg]; exact Nat.ne_of_lt (IsS72.lt (show IsS72 w0 _ g s0_0 s0_1 s0_2 s0_3 s0_4 s0_5 s0_6 from by repeat (first | (with_reducible first | exact HI0.out | apply IsS72.alloc | apply IsS72.drewN | apply IsS72.drew | apply IsS72.set_0 | apply IsS72.set_1 | apply IsS72.set_2 | apply IsS72.set_3 | apply IsS72.set_4 | apply IsS72.set_5 | apply IsS72.set_6) | exact HI0.out))) : g ≠ E0)); have n7_ := Aside0.mk ((by rw [hg]; exact Nat.ne_of_gt (IsS72.lt (show IsS72 w0 _ g s0_0 s0_1 s0_2 s0_3 s0_4 s0_5 s0_6 from by repeat (first | (with_reducible first | exact HI0.out | apply IsS72.alloc | apply IsS72.drewN | apply IsS72.drew | apply IsS72.set_0 | apply IsS72.set_1 | apply IsS72.set_2 | apply IsS72.set_3 | apply IsS72.set_4 | apply IsS72.set_5 | apply IsS72.set_6) | exact HI0.out))) : E0 ≠ g)); clear HI0; clear HK; clear HB; have HI0 := n0_; have HK := n1_; have HB := n2_; have E2 := n3_; have E3 := n4_; have E5 := n5_; have E1 := n6_; have E4 := n7_; clear n0_ n1_ n2_ n3_ n4_ n5_ n6_ n7_; clear hb hbox hg; have E6 := E4.out; have E7 := E1.out; obtain ⟨E8, E9, G0, G1, G2, G3, G4, G5⟩ := zq4 E2; obtain ⟨HGz7, hgz7⟩ := HI0.out; have G6 := cellS72_0 HGz7; have G7 := cellS72_1 HGz7; have G8 := cellS72_2 HGz7; have G9 := cellS72_3 HGz7; have V0 := cellS72_4 HGz7; have V1 := cellS72_5 HGz7; have V2 := cellS72_6 HGz7; have V3 := blk_frozen HGz7 0; have V4 := blk_frozen HGz7 1; have V5 := blk_frozen HGz7 2; have V6 := blk_frozen HGz7 3; have V7 := blk_frozen HGz7 4; have V8 := blk_frozen HGz7 5; have V9 := blk_frozen HGz7 6; clear HGz7 hgz7) | (with_reducible refine wp_loop_rounds 5 ?_) | (rw [rounds_succ]) | (go_region))
 first | go_end0 | ((try simp only [Exit.inBlock, Exit.then]); refine bodyPost_ret (results_none rfl _ _ _) rfl ?_)
 exact ⟨by first | rfl | (simp [errW_none, errW_some] <;> rfl) | (simp [*, errW_none, errW_some] <;> rfl), by repeat (first | (with_reducible first | exact HI0.out | apply IsS72.alloc | apply IsS72.drewN | apply IsS72.drew | apply IsS72.set_0 | apply IsS72.set_1 | apply IsS72.set_2 | apply IsS72.set_3 | apply IsS72.set_4 | apply IsS72.set_5 | apply IsS72.set_6 | refine IsS72.far ?_ E1.out _) | exact HI0.out), by repeat (first | (with_reducible first | exact HB.out | apply below_alloc | apply pw_below_drewN | apply below_drew1 | refine below_set ?_ (IsS72.ge HI0.out)) | exact HB.out), by repeat (first | (with_reducible first | exact HK.out | apply KeepBut.set_ | apply keep_drewN | apply keep_drew | apply keep_alloc | refine keep_far ?_ E3.out _) | exact HK.out)⟩

/-! ### warp_sums_channel: function 81 -/
def warp_sums_channel.f (k : Nat) (s0_0 : Int) (s0_1 : Int) (s0_2 : Int) (s0_3 : Int) (s0_4 : Int) (s0_5 : Int) (s0_6 : Int) (a1 : Int) : Option (Int × Int × Int × Int × Int × Int × Int × Int) := if a1 = 0 then ((num_Floor.f s0_1 s0_0).bind fun t303 => ((num_Div.f k (wrap64 ((wrap64 (256 * (wrap64 (s0_1 - (wrap64 (t303 * s0_0)))))) + s0_4)) s0_0).bind fun t304 => ((num_Clamp.f (wrap64 ((wrap64 (256 * t303)) + t304)) 0 65535).bind fun t305 => (some (t305, s0_0, s0_1, s0_2, s0_3, s0_4, s0_5, s0_6))))) else (if a1 = 1 then ((num_Floor.f s0_2 s0_0).bind fun t306 => ((num_Div.f k (wrap64 ((wrap64 (256 * (wrap64 (s0_2 - (wrap64 (t306 * s0_0)))))) + s0_5)) s0_0).bind fun t307 => ((num_Clamp.f (wrap64 ((wrap64 (256 * t306)) + t307)) 0 65535).bind fun t308 => (some (t308, s0_0, s0_1, s0_2, s0_3, s0_4, s0_5, s0_6))))) else (if a1 = 2 then ((num_Floor.f s0_3 s0_0).bind fun t309 => ((num_Div.f k (wrap64 ((wrap64 (256 * (wrap64 (s0_3 - (wrap64 (t309 * s0_0)))))) + s0_6)) s0_0).bind fun t310 => ((num_Clamp.f (wrap64 ((wrap64 (256 * t309)) + t310)) 0 65535).bind fun t311 => (some (t311, s0_0, s0_1, s0_2, s0_3, s0_4, s0_5, s0_6))))) else (none)))
theorem warp_sums_channel.mono : ∀ a0 a1 a2 a3 a4 a5 a6 a7 k, LeO (warp_sums_channel.f k a0 a1 a2 a3 a4 a5 a6 a7) (warp_sums_channel.f (k + 1) a0 a1 a2 a3 a4 a5 a6 a7) := by
 intro a0 a1 a2 a3 a4 a5 a6 a7 k
 unfold warp_sums_channel.f
 repeat' first
   | (with_reducible exact num_Div.mono _ _ _)
   | (with_reducible exact LeO.refl _)
   | (with_reducible exact LeO.none _)
   | (with_reducible refine LeO.ite ?_ ?_)
   | (with_reducible refine LeO.bind ?_ (fun _ => ?_))
   | exact num_Div.mono _ _ _
   | exact LeO.none _
   | refine LeO.ite ?_ ?_
   | refine LeO.bind ?_ (fun _ => ?_)
set_option maxHeartbeats 8000000 in
set_option maxRecDepth 100000 in
theorem warp_sums_channel.calls (k : Nat) (g : Nat) (s0_0 : Int) (s0_1 : Int) (s0_2 : Int) (s0_3 : Int) (s0_4 : Int) (s0_5 : Int) (s0_6 : Int) (a1 : Int) (r1 : Int) (r2 : Int) (r3 : Int) (r4 : Int) (r5 : Int) (r6 : Int) (r7 : Int) (r8 : Int) (w0 w : World) (hI : IsS72 w0 w g s0_0 s0_1 s0_2 s0_3 s0_4 s0_5 s0_6) (hB : Below w0.heap.size w0 w) (h : warp_sums_channel.f k s0_0 s0_1 s0_2 s0_3 s0_4 s0_5 s0_6 a1 = some (r1, r2, r3, r4, r5, r6, r7, r8)) :
  Calls Try.prog 81 #[.pointer (some ⟨g, 0, none⟩), .int .i64 a1] w fun e w' => e = .returned (.int .i64 r1) ∧ IsS72 w0 w' g r2 r3 r4 r5 r6 r7 r8 ∧ Below w0.heap.size w0 w' ∧ KeepBut w w' g none := by
 have hu70 := Try.underlying70
 have HI0 := Aside0.mk hI
 have HK := Aside0.mk (KeepBut.refl w g none)
 have HL := Aside0.mk hB.size
 clear hI
 have HW0 := Aside0.mk hB.size
 have HB := Aside0.mk hB
 clear hB
 have H : (if a1 = 0 then ((num_Floor.f s0_1 s0_0).bind fun t303 => ((num_Div.f k (wrap64 ((wrap64 (256 * (wrap64 (s0_1 - (wrap64 (t303 * s0_0)))))) + s0_4)) s0_0).bind fun t304 => ((num_Clamp.f (wrap64 ((wrap64 (256 * t303)) + t304)) 0 65535).bind fun t305 => (some (t305, s0_0, s0_1, s0_2, s0_3, s0_4, s0_5, s0_6))))) else (if a1 = 1 then ((num_Floor.f s0_2 s0_0).bind fun t306 => ((num_Div.f k (wrap64 ((wrap64 (256 * (wrap64 (s0_2 - (wrap64 (t306 * s0_0)))))) + s0_5)) s0_0).bind fun t307 => ((num_Clamp.f (wrap64 ((wrap64 (256 * t306)) + t307)) 0 65535).bind fun t308 => (some (t308, s0_0, s0_1, s0_2, s0_3, s0_4, s0_5, s0_6))))) else (if a1 = 2 then ((num_Floor.f s0_3 s0_0).bind fun t309 => ((num_Div.f k (wrap64 ((wrap64 (256 * (wrap64 (s0_3 - (wrap64 (t309 * s0_0)))))) + s0_6)) s0_0).bind fun t310 => ((num_Clamp.f (wrap64 ((wrap64 (256 * t309)) + t310)) 0 65535).bind fun t311 => (some (t311, s0_0, s0_1, s0_2, s0_3, s0_4, s0_5, s0_6))))) else (none)))) = some (r1, r2, r3, r4, r5, r6, r7, r8) := h
 clear h
 by_cases c3 : a1 = 0
 ·rw [if_pos c3] at H
  subst c3
  replace H := Option.bind_eq_some_iff.mp H
  obtain ⟨t303, A40, H⟩ := H
  try dsimp only at H
  have A4 := Aside0.mk A40
  clear A40
  replace H := Option.bind_eq_some_iff.mp H
  obtain ⟨t304, A50, H⟩ := H
  try dsimp only at H
  have A5 := Aside0.mk A50
  clear A50
  replace H := Option.bind_eq_some_iff.mp H
  obtain ⟨t305, A60, H⟩ := H
  try dsimp only at H
  have A6 := Aside0.mk A60
  clear A60
  simp only [Option.some.injEq, Prod.mk.injEq] at H
  obtain ⟨rfl, rfl, rfl, rfl, rfl, rfl, rfl, rfl⟩ := H
  obtain ⟨HGz7, hgz7⟩ := HI0.out
  have E0 := cellS72_0 HGz7
  have E1 := cellS72_1 HGz7
  have E2 := cellS72_2 HGz7
  have E3 := cellS72_3 HGz7
  have E4 := cellS72_4 HGz7
  have E5 := cellS72_5 HGz7
  have E6 := cellS72_6 HGz7
  have E7 := blk_frozen HGz7 0
  have E8 := blk_frozen HGz7 1
  have E9 := blk_frozen HGz7 2
  have G0 := blk_frozen HGz7 3
  have G1 := blk_frozen HGz7 4
  have G2 := blk_frozen HGz7 5
  have G3 := blk_frozen HGz7 6
  clear HGz7 hgz7
  go_enter Try.func81, Try.ntmps81
  go_wp2_with (first | (go_at_call 79; (with_reducible refine (num_Floor.calls s0_1 s0_0 t303 _ A4.out).mono ?_); rintro e w' ⟨rfl, ⟨nd, rfl⟩⟩; (try first | exact ⟨rfl, _, World.drewN_drewN _ _ _⟩ | exact ⟨rfl, _, Eq.trans (World.drewN_drewN _ _ _) (congrArg (World.drewN _) (Nat.add_assoc _ _ _))⟩)) | (go_at_call 67; (with_reducible refine (num_Div.calls k (wrap64 ((wrap64 (256 * (wrap64 (s0_1 - (wrap64 (t303 * s0_0)))))) + s0_4)) s0_0 t304 _ A5.out).mono ?_); rintro e w' ⟨rfl, ⟨nd, rfl⟩⟩; (try first | exact ⟨rfl, _, World.drewN_drewN _ _ _⟩ | exact ⟨rfl, _, Eq.trans (World.drewN_drewN _ _ _) (congrArg (World.drewN _) (Nat.add_assoc _ _ _))⟩)) | (go_at_call 49; (with_reducible refine (num_Clamp.calls (wrap64 ((wrap64 (256 * t303)) + t304)) 0 65535 t305 _ A6.out).mono ?_); rintro e w8 ⟨rfl, hb⟩; have n0_ := Aside0.mk (IsS72.below (by repeat (first | (with_reducible first | exact HI0.out | apply IsS72.alloc | apply IsS72.drewN | apply IsS72.drew | apply IsS72.set_0 | apply IsS72.set_1 | apply IsS72.set_2 | apply IsS72.set_3 | apply IsS72.set_4 | apply IsS72.set_5 | apply IsS72.set_6) | exact HI0.out)) hb); have n1_ := Aside0.mk (KeepBut.trans (by repeat (first | (with_reducible first | exact HK.out | apply KeepBut.set_ | apply keep_drewN | apply keep_drew | apply keep_alloc) | exact HK.out)) (KeepBut.of_below hb g none) (.inl rfl)); have n2_ := Aside0.mk (below_step (by repeat (first | (with_reducible first | exact HB.out | apply below_alloc | apply pw_below_drewN | apply below_drew1 | refine below_set ?_ (IsS72.ge HI0.out)) | exact HB.out)) hb); clear HI0; clear HK; clear HB; have HI0 := n0_; have HK := n1_; have HB := n2_; clear n0_ n1_ n2_; (try clear hb)))
  repeat (go_quiet (first | (go_at_call 79; (with_reducible refine (num_Floor.calls s0_1 s0_0 t303 _ A4.out).mono ?_); rintro e w' ⟨rfl, ⟨nd, rfl⟩⟩; (try first | exact ⟨rfl, _, World.drewN_drewN _ _ _⟩ | exact ⟨rfl, _, Eq.trans (World.drewN_drewN _ _ _) (congrArg (World.drewN _) (Nat.add_assoc _ _ _))⟩)) | (go_at_call 67; (with_reducible refine (num_Div.calls k (wrap64 ((wrap64 (256 * (wrap64 (s0_1 - (wrap64 (t303 * s0_0)))))) + s0_4)) s0_0 t304 _ A5.out).mono ?_); rintro e w' ⟨rfl, ⟨nd, rfl⟩⟩; (try first | exact ⟨rfl, _, World.drewN_drewN _ _ _⟩ | exact ⟨rfl, _, Eq.trans (World.drewN_drewN _ _ _) (congrArg (World.drewN _) (Nat.add_assoc _ _ _))⟩)) | (go_at_call 49; (with_reducible refine (num_Clamp.calls (wrap64 ((wrap64 (256 * t303)) + t304)) 0 65535 t305 _ A6.out).mono ?_); rintro e w8 ⟨rfl, hb⟩; have n0_ := Aside0.mk (IsS72.below (by repeat (first | (with_reducible first | exact HI0.out | apply IsS72.alloc | apply IsS72.drewN | apply IsS72.drew | apply IsS72.set_0 | apply IsS72.set_1 | apply IsS72.set_2 | apply IsS72.set_3 | apply IsS72.set_4 | apply IsS72.set_5 | apply IsS72.set_6) | exact HI0.out)) hb); have n1_ := Aside0.mk (KeepBut.trans (by repeat (first | (with_reducible first | exact HK.out | apply KeepBut.set_ | apply keep_drewN | apply keep_drew | apply keep_alloc) | exact HK.out)) (KeepBut.of_below hb g none) (.inl rfl)); have n2_ := Aside0.mk (below_step (by repeat (first | (with_reducible first | exact HB.out | apply below_alloc | apply pw_below_drewN | apply below_drew1 | refine below_set ?_ (IsS72.ge HI0.out)) | exact HB.out)) hb); clear HI0; clear HK; clear HB; have HI0 := n0_; have HK := n1_; have HB := n2_; clear n0_ n1_ n2_; (try clear hb))); try go_wp2_with (first | (go_at_call 79; (with_reducible refine (num_Floor.calls s0_1 s0_0 t303 _ A4.out).mono ?_); rintro e w' ⟨rfl, ⟨nd, rfl⟩⟩; (try first | exact ⟨rfl, _, World.drewN_drewN _ _ _⟩ | exact ⟨rfl, _, Eq.trans (World.drewN_drewN _ _ _) (congrArg (World.drewN _) (Nat.add_assoc _ _ _))⟩)) | (go_at_call 67; (with_reducible refine (num_Div.calls k (wrap64 ((wrap64 (256 * (wrap64 (s0_1 - (wrap64 (t303 * s0_0)))))) + s0_4)) s0_0 t304 _ A5.out).mono ?_); rintro e w' ⟨rfl, ⟨nd, rfl⟩⟩; (try first | exact ⟨rfl, _, World.drewN_drewN _ _ _⟩ | exact ⟨rfl, _, Eq.trans (World.drewN_drewN _ _ _) (congrArg (World.drewN _) (Nat.add_assoc _ _ _))⟩)) | (go_at_call 49; (with_reducible refine (num_Clamp.calls (wrap64 ((wrap64 (256 * t303)) + t304)) 0 65535 t305 _ A6.out).mono ?_); rintro e w8 ⟨rfl, hb⟩; have n0_ := Aside0.mk (IsS72.below (by repeat (first | (with_reducible first | exact HI0.out | apply IsS72.alloc | apply IsS72.drewN | apply IsS72.drew | apply IsS72.set_0 | apply IsS72.set_1 | apply IsS72.set_2 | apply IsS72.set_3 | apply IsS72.set_4 | apply IsS72.set_5 | apply IsS72.set_6) | exact HI0.out)) hb); have n1_ := Aside0.mk (KeepBut.trans (by repeat (first | (with_reducible first | exact HK.out | apply KeepBut.set_ | apply keep_drewN | apply keep_drew | apply keep_alloc) | exact HK.out)) (KeepBut.of_below hb g none) (.inl rfl)); have n2_ := Aside0.mk (below_step (by repeat (first | (with_reducible first | exact HB.out | apply below_alloc | apply pw_below_drewN | apply below_drew1 | refine below_set ?_ (IsS72.ge HI0.out)) | exact HB.out)) hb); clear HI0; clear HK; clear HB; have HI0 := n0_; have HK := n1_; have HB := n2_; clear n0_ n1_ n2_; (try clear hb))))
  go_ret
  exact ⟨by first | rfl | (simp [errW_none, errW_some] <;> rfl) | (simp [*, errW_none, errW_some] <;> rfl), by repeat (first | (with_reducible first | exact HI0.out | apply IsS72.alloc | apply IsS72.drewN | apply IsS72.drew | apply IsS72.set_0 | apply IsS72.set_1 | apply IsS72.set_2 | apply IsS72.set_3 | apply IsS72.set_4 | apply IsS72.set_5 | apply IsS72.set_6) | exact HI0.out), by repeat (first | (with_reducible first | exact HB.out | apply below_alloc | apply pw_below_drewN | apply below_drew1 | refine below_set ?_ (IsS72.ge HI0.out)) | exact HB.out), by repeat (first | (with_reducible first | exact HK.out | apply KeepBut.set_ | apply keep_drewN | apply keep_drew | apply keep_alloc) | exact HK.out)⟩
 rw [if_neg c3] at H
 have G4 : (a1 == 0) = false := beq_eq_false_iff_ne.mpr c3
 have G5 : (a1 != 0) = true := bne_iff_ne.mpr c3
 by_cases c9 : a1 = 1
 ·rw [if_pos c9] at H
  subst c9
  replace H := Option.bind_eq_some_iff.mp H
  obtain ⟨t306, A100, H⟩ := H
  try dsimp only at H
  have A10 := Aside0.mk A100
  clear A100
  replace H := Option.bind_eq_some_iff.mp H
  obtain ⟨t307, A110, H⟩ := H
  try dsimp only at H
  have A11 := Aside0.mk A110
  clear A110
  replace H := Option.bind_eq_some_iff.mp H
  obtain ⟨t308, A120, H⟩ := H
  try dsimp only at H
  have A12 := Aside0.mk A120
  clear A120
  simp only [Option.some.injEq, Prod.mk.injEq] at H
  obtain ⟨rfl, rfl, rfl, rfl, rfl, rfl, rfl, rfl⟩ := H
  obtain ⟨HGz13, hgz13⟩ := HI0.out
  have G6 := cellS72_0 HGz13
  have G7 := cellS72_1 HGz13
  have G8 := cellS72_2 HGz13
  have G9 := cellS72_3 HGz13
  have V0 := cellS72_4 HGz13
  have V1 := cellS72_5 HGz13
  have V2 := cellS72_6 HGz13
  have V3 := blk_frozen HGz13 0
  have V4 := blk_frozen HGz13 1
  have V5 := blk_frozen HGz13 2
  have V6 := blk_frozen HGz13 3
  have V7 := blk_frozen HGz13 4
  have V8 := blk_frozen HGz13 5
  have V9 := blk_frozen HGz13 6
  clear HGz13 hgz13
  go_enter Try.func81, Try.ntmps81
  go_wp2_with (first | (go_at_call 79; (with_reducible refine (num_Floor.calls s0_2 s0_0 t306 _ A10.out).mono ?_); rintro e w' ⟨rfl, ⟨nd, rfl⟩⟩; (try first | exact ⟨rfl, _, World.drewN_drewN _ _ _⟩ | exact ⟨rfl, _, Eq.trans (World.drewN_drewN _ _ _) (congrArg (World.drewN _) (Nat.add_assoc _ _ _))⟩)) | (go_at_call 67; (with_reducible refine (num_Div.calls k (wrap64 ((wrap64 (256 * (wrap64 (s0_2 - (wrap64 (t306 * s0_0)))))) + s0_5)) s0_0 t307 _ A11.out).mono ?_); rintro e w' ⟨rfl, ⟨nd, rfl⟩⟩; (try first | exact ⟨rfl, _, World.drewN_drewN _ _ _⟩ | exact ⟨rfl, _, Eq.trans (World.drewN_drewN _ _ _) (congrArg (World.drewN _) (Nat.add_assoc _ _ _))⟩)) | (go_at_call 49; (with_reducible refine (num_Clamp.calls (wrap64 ((wrap64 (256 * t306)) + t307)) 0 65535 t308 _ A12.out).mono ?_); rintro e w14 ⟨rfl, hb⟩; have n0_ := Aside0.mk (IsS72.below (by repeat (first | (with_reducible first | exact HI0.out | apply IsS72.alloc | apply IsS72.drewN | apply IsS72.drew | apply IsS72.set_0 | apply IsS72.set_1 | apply IsS72.set_2 | apply IsS72.set_3 | apply IsS72.set_4 | apply IsS72.set_5 | apply IsS72.set_6) | exact HI0.out)) hb); have n1_ := Aside0.mk (KeepBut.trans (by repeat (first | (with_reducible first | exact HK.out | apply KeepBut.set_ | apply keep_drewN | apply keep_drew | apply keep_alloc) | exact HK.out)) (KeepBut.of_below hb g none) (.inl rfl)); have n2_ := Aside0.mk (below_step (by repeat (first | (with_reducible first | exact HB.out | apply below_alloc | apply pw_below_drewN | apply below_drew1 | refine below_set ?_ (IsS72.ge HI0.out)) | exact HB.out)) hb); clear HI0; clear HK; clear HB; have HI0 := n0_; have HK := n1_; have HB := n2_; clear n0_ n1_ n2_; (try clear hb)))
  repeat (go_quiet (first | (go_at_call 79; (with_reducible refine (num_Floor.calls s0_2 s0_0 t306 _ A10.out).mono ?_); rintro e w' ⟨rfl, ⟨nd, rfl⟩⟩; (try first | exact ⟨rfl, _, World.drewN_drewN _ _ _⟩ | exact ⟨rfl, _, Eq.trans (World.drewN_drewN _ _ _) (congrArg (World.drewN _) (Nat.add_assoc _ _ _))⟩)) | (go_at_call 67; (with_reducible refine (num_Div.calls k (wrap64 ((wrap64 (256 * (wrap64 (s0_2 - (wrap64 (t306 * s0_0)))))) + s0_5)) s0_0 t307 _ A11.out).mono ?_); rintro e w' ⟨rfl, ⟨nd, rfl⟩⟩; (try first | exact ⟨rfl, _, World.drewN_drewN _ _ _⟩ | exact ⟨rfl, _, Eq.trans (World.drewN_drewN _ _ _) (congrArg (World.drewN _) (Nat.add_assoc _ _ _))⟩)) | (go_at_call 49; (with_reducible refine (num_Clamp.calls (wrap64 ((wrap64 (256 * t306)) + t307)) 0 65535 t308 _ A12.out).mono ?_); rintro e w14 ⟨rfl, hb⟩; have n0_ := Aside0.mk (IsS72.below (by repeat (first | (with_reducible first | exact HI0.out | apply IsS72.alloc | apply IsS72.drewN | apply IsS72.drew | apply IsS72.set_0 | apply IsS72.set_1 | apply IsS72.set_2 | apply IsS72.set_3 | apply IsS72.set_4 | apply IsS72.set_5 | apply IsS72.set_6) | exact HI0.out)) hb); have n1_ := Aside0.mk (KeepBut.trans (by repeat (first | (with_reducible first | exact HK.out | apply KeepBut.set_ | apply keep_drewN | apply keep_drew | apply keep_alloc) | exact HK.out)) (KeepBut.of_below hb g none) (.inl rfl)); have n2_ := Aside0.mk (below_step (by repeat (first | (with_reducible first | exact HB.out | apply below_alloc | apply pw_below_drewN | apply below_drew1 | refine below_set ?_ (IsS72.ge HI0.out)) | exact HB.out)) hb); clear HI0; clear HK; clear HB; have HI0 := n0_; have HK := n1_; have HB := n2_; clear n0_ n1_ n2_; (try clear hb))); try go_wp2_with (first | (go_at_call 79; (with_reducible refine (num_Floor.calls s0_2 s0_0 t306 _ A10.out).mono ?_); rintro e w' ⟨rfl, ⟨nd, rfl⟩⟩; (try first | exact ⟨rfl, _, World.drewN_drewN _ _ _⟩ | exact ⟨rfl, _, Eq.trans (World.drewN_drewN _ _ _) (congrArg (World.drewN _) (Nat.add_assoc _ _ _))⟩)) | (go_at_call 67; (with_reducible refine (num_Div.calls k (wrap64 ((wrap64 (256 * (wrap64 (s0_2 - (wrap64 (t306 * s0_0)))))) + s0_5)) s0_0 t307 _ A11.out).mono ?_); rintro e w' ⟨rfl, ⟨nd, rfl⟩⟩; (try first | exact ⟨rfl, _, World.drewN_drewN _ _ _⟩ | exact ⟨rfl, _, Eq.trans (World.drewN_drewN _ _ _) (congrArg (World.drewN _) (Nat.add_assoc _ _ _))⟩)) | (go_at_call 49; (with_reducible refine (num_Clamp.calls (wrap64 ((wrap64 (256 * t306)) + t307)) 0 65535 t308 _ A12.out).mono ?_); rintro e w14 ⟨rfl, hb⟩; have n0_ := Aside0.mk (IsS72.below (by repeat (first | (with_reducible first | exact HI0.out | apply IsS72.alloc | apply IsS72.drewN | apply IsS72.drew | apply IsS72.set_0 | apply IsS72.set_1 | apply IsS72.set_2 | apply IsS72.set_3 | apply IsS72.set_4 | apply IsS72.set_5 | apply IsS72.set_6) | exact HI0.out)) hb); have n1_ := Aside0.mk (KeepBut.trans (by repeat (first | (with_reducible first | exact HK.out | apply KeepBut.set_ | apply keep_drewN | apply keep_drew | apply keep_alloc) | exact HK.out)) (KeepBut.of_below hb g none) (.inl rfl)); have n2_ := Aside0.mk (below_step (by repeat (first | (with_reducible first | exact HB.out | apply below_alloc | apply pw_below_drewN | apply below_drew1 | refine below_set ?_ (IsS72.ge HI0.out)) | exact HB.out)) hb); clear HI0; clear HK; clear HB; have HI0 := n0_; have HK := n1_; have HB := n2_; clear n0_ n1_ n2_; (try clear hb))))
  go_ret
  exact ⟨by first | rfl | (simp [errW_none, errW_some] <;> rfl) | (simp [*, errW_none, errW_some] <;> rfl), by repeat (first | (with_reducible first | exact HI0.out | apply IsS72.alloc | apply IsS72.drewN | apply IsS72.drew | apply IsS72.set_0 | apply IsS72.set_1 | apply IsS72.set_2 | apply IsS72.set_3 | apply IsS72.set_4 | apply IsS72.set_5 | apply IsS72.set_6) | exact HI0.out), by repeat (first | (with_reducible first | exact HB.out | apply below_alloc | apply pw_below_drewN | apply below_drew1 | refine below_set ?_ (IsS72.ge HI0.out)) | exact HB.out), by repeat (first | (with_reducible first | exact HK.out | apply KeepBut.set_ | apply keep_drewN | apply keep_drew | apply keep_alloc) | exact HK.out)⟩
 rw [if_neg c9] at H
 have Y0 : (a1 == 1) = false := beq_eq_false_iff_ne.mpr c9
 have Y1 : (a1 != 1) = true := bne_iff_ne.mpr c9
 by_cases c15 : a1 = 2
 rotate_left
 ·rw [if_neg c15] at H
  exact absurd H (by simp)

 rw [if_pos c15] at H
 subst c15
 replace H := Option.bind_eq_some_iff.mp H
 obtain ⟨t309, A160, H⟩ := H
 try dsimp only at H
 have A16 := Aside0.mk A160
 clear A160
 replace H := Option.bind_eq_some_iff.mp H
 obtain ⟨t310, A170, H⟩ := H
 try dsimp only at H
 have A17 := Aside0.mk A170
 clear A170
 replace H := Option.bind_eq_some_iff.mp H
 obtain ⟨t311, A180, H⟩ := H
 try dsimp only at H
 have A18 := Aside0.mk A180
 clear A180
 simp only [Option.some.injEq, Prod.mk.injEq] at H
 obtain ⟨rfl, rfl, rfl, rfl, rfl, rfl, rfl, rfl⟩ := H
 obtain ⟨HGz19, hgz19⟩ := HI0.out
 have Y2 := cellS72_0 HGz19
 have Y3 := cellS72_1 HGz19
 have Y4 := cellS72_2 HGz19
 have Y5 := cellS72_3 HGz19
 have Y6 := cellS72_4 HGz19
 have Y7 := cellS72_5 HGz19
 have Y8 := cellS72_6 HGz19
 have Y9 := blk_frozen HGz19 0
 have Z0 := blk_frozen HGz19 1
 have Z1 := blk_frozen HGz19 2
 have Z2 := blk_frozen HGz19 3
 have Z3 := blk_frozen HGz19 4
 have Z4 := blk_frozen HGz19 5
 have Z5 := blk_frozen HGz19 6
 clear HGz19 hgz19
 go_enter Try.func81, Try.ntmps81
 go_wp2_with (first | (go_at_call 79; (with_reducible refine (num_Floor.calls s0_3 s0_0 t309 _ A16.out).mono ?_); rintro e w' ⟨rfl, ⟨nd, rfl⟩⟩; (try first | exact ⟨rfl, _, World.drewN_drewN _ _ _⟩ | exact ⟨rfl, _, Eq.trans (World.drewN_drewN _ _ _) (congrArg (World.drewN _) (Nat.add_assoc _ _ _))⟩)) | (go_at_call 67; (with_reducible refine (num_Div.calls k (wrap64 ((wrap64 (256 * (wrap64 (s0_3 - (wrap64 (t309 * s0_0)))))) + s0_6)) s0_0 t310 _ A17.out).mono ?_); rintro e w' ⟨rfl, ⟨nd, rfl⟩⟩; (try first | exact ⟨rfl, _, World.drewN_drewN _ _ _⟩ | exact ⟨rfl, _, Eq.trans (World.drewN_drewN _ _ _) (congrArg (World.drewN _) (Nat.add_assoc _ _ _))⟩)) | (go_at_call 49; (with_reducible refine (num_Clamp.calls (wrap64 ((wrap64 (256 * t309)) + t310)) 0 65535 t311 _ A18.out).mono ?_); rintro e w20 ⟨rfl, hb⟩; have n0_ := Aside0.mk (IsS72.below (by repeat (first | (with_reducible first | exact HI0.out | apply IsS72.alloc | apply IsS72.drewN | apply IsS72.drew | apply IsS72.set_0 | apply IsS72.set_1 | apply IsS72.set_2 | apply IsS72.set_3 | apply IsS72.set_4 | apply IsS72.set_5 | apply IsS72.set_6) | exact HI0.out)) hb); have n1_ := Aside0.mk (KeepBut.trans (by repeat (first | (with_reducible first | exact HK.out | apply KeepBut.set_ | apply keep_drewN | apply keep_drew | apply keep_alloc) | exact HK.out)) (KeepBut.of_below hb g none) (.inl rfl)); have n2_ := Aside0.mk (below_step (by repeat (first | (with_reducible first | exact HB.out | apply below_alloc | apply pw_below_drewN | apply below_drew1 | refine below_set ?_ (IsS72.ge HI0.out)) | exact HB.out)) hb); clear HI0; clear HK; clear HB; have HI0 := n0_; have HK := n1_; have HB := n2_; clear n0_ n1_ n2_; (try clear hb)))
 repeat (go_quiet (first | (go_at_call 79; (with_reducible refine (num_Floor.calls s0_3 s0_0 t309 _ A16.out).mono ?_); rintro e w' ⟨rfl, ⟨nd, rfl⟩⟩; (try first | exact ⟨rfl, _, World.drewN_drewN _ _ _⟩ | exact ⟨rfl, _, Eq.trans (World.drewN_drewN _ _ _) (congrArg (World.drewN _) (Nat.add_assoc _ _ _))⟩)) | (go_at_call 67; (with_reducible refine (num_Div.calls k (wrap64 ((wrap64 (256 * (wrap64 (s0_3 - (wrap64 (t309 * s0_0)))))) + s0_6)) s0_0 t310 _ A17.out).mono ?_); rintro e w' ⟨rfl, ⟨nd, rfl⟩⟩; (try first | exact ⟨rfl, _, World.drewN_drewN _ _ _⟩ | exact ⟨rfl, _, Eq.trans (World.drewN_drewN _ _ _) (congrArg (World.drewN _) (Nat.add_assoc _ _ _))⟩)) | (go_at_call 49; (with_reducible refine (num_Clamp.calls (wrap64 ((wrap64 (256 * t309)) + t310)) 0 65535 t311 _ A18.out).mono ?_); rintro e w20 ⟨rfl, hb⟩; have n0_ := Aside0.mk (IsS72.below (by repeat (first | (with_reducible first | exact HI0.out | apply IsS72.alloc | apply IsS72.drewN | apply IsS72.drew | apply IsS72.set_0 | apply IsS72.set_1 | apply IsS72.set_2 | apply IsS72.set_3 | apply IsS72.set_4 | apply IsS72.set_5 | apply IsS72.set_6) | exact HI0.out)) hb); have n1_ := Aside0.mk (KeepBut.trans (by repeat (first | (with_reducible first | exact HK.out | apply KeepBut.set_ | apply keep_drewN | apply keep_drew | apply keep_alloc) | exact HK.out)) (KeepBut.of_below hb g none) (.inl rfl)); have n2_ := Aside0.mk (below_step (by repeat (first | (with_reducible first | exact HB.out | apply below_alloc | apply pw_below_drewN | apply below_drew1 | refine below_set ?_ (IsS72.ge HI0.out)) | exact HB.out)) hb); clear HI0; clear HK; clear HB; have HI0 := n0_; have HK := n1_; have HB := n2_; clear n0_ n1_ n2_; (try clear hb))); try go_wp2_with (first | (go_at_call 79; (with_reducible refine (num_Floor.calls s0_3 s0_0 t309 _ A16.out).mono ?_); rintro e w' ⟨rfl, ⟨nd, rfl⟩⟩; (try first | exact ⟨rfl, _, World.drewN_drewN _ _ _⟩ | exact ⟨rfl, _, Eq.trans (World.drewN_drewN _ _ _) (congrArg (World.drewN _) (Nat.add_assoc _ _ _))⟩)) | (go_at_call 67; (with_reducible refine (num_Div.calls k (wrap64 ((wrap64 (256 * (wrap64 (s0_3 - (wrap64 (t309 * s0_0)))))) + s0_6)) s0_0 t310 _ A17.out).mono ?_); rintro e w' ⟨rfl, ⟨nd, rfl⟩⟩; (try first | exact ⟨rfl, _, World.drewN_drewN _ _ _⟩ | exact ⟨rfl, _, Eq.trans (World.drewN_drewN _ _ _) (congrArg (World.drewN _) (Nat.add_assoc _ _ _))⟩)) | (go_at_call 49; (with_reducible refine (num_Clamp.calls (wrap64 ((wrap64 (256 * t309)) + t310)) 0 65535 t311 _ A18.out).mono ?_); rintro e w20 ⟨rfl, hb⟩; have n0_ := Aside0.mk (IsS72.below (by repeat (first | (with_reducible first | exact HI0.out | apply IsS72.alloc | apply IsS72.drewN | apply IsS72.drew | apply IsS72.set_0 | apply IsS72.set_1 | apply IsS72.set_2 | apply IsS72.set_3 | apply IsS72.set_4 | apply IsS72.set_5 | apply IsS72.set_6) | exact HI0.out)) hb); have n1_ := Aside0.mk (KeepBut.trans (by repeat (first | (with_reducible first | exact HK.out | apply KeepBut.set_ | apply keep_drewN | apply keep_drew | apply keep_alloc) | exact HK.out)) (KeepBut.of_below hb g none) (.inl rfl)); have n2_ := Aside0.mk (below_step (by repeat (first | (with_reducible first | exact HB.out | apply below_alloc | apply pw_below_drewN | apply below_drew1 | refine below_set ?_ (IsS72.ge HI0.out)) | exact HB.out)) hb); clear HI0; clear HK; clear HB; have HI0 := n0_; have HK := n1_; have HB := n2_; clear n0_ n1_ n2_; (try clear hb))))
 go_ret
 exact ⟨by first | rfl | (simp [errW_none, errW_some] <;> rfl) | (simp [*, errW_none, errW_some] <;> rfl), by repeat (first | (with_reducible first | exact HI0.out | apply IsS72.alloc | apply IsS72.drewN | apply IsS72.drew | apply IsS72.set_0 | apply IsS72.set_1 | apply IsS72.set_2 | apply IsS72.set_3 | apply IsS72.set_4 | apply IsS72.set_5 | apply IsS72.set_6) | exact HI0.out), by repeat (first | (with_reducible first | exact HB.out | apply below_alloc | apply pw_below_drewN | apply below_drew1 | refine below_set ?_ (IsS72.ge HI0.out)) | exact HB.out), by repeat (first | (with_reducible first | exact HK.out | apply KeepBut.set_ | apply keep_drewN | apply keep_drew | apply keep_alloc) | exact HK.out)⟩
end Go.Proofs.Ytnfbabmceddciaa.G
