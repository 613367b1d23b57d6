/- Contracts of functions of the program, each as it is called: what it computes (.f), that it computes no less with more rounds (.mono), and that a call returns just that (.calls). No conditions but those that each contract names. Written by a program of this session (wip/gx.py over the kit's print). -/
import Derived.Test.YtapdifpmijgkcaaG0
import Derived.Test.YtapdifpmijgkcaaG1
namespace Go.Proofs.Ytapdifpmijgkcaa.G
open Go.RowKit Go.Proofs.YtapdifpmijgkcaaW.PrintWords Go.Proofs.YtapdifpmijgkcaaW.PrintLast Go.Proofs.YtapdifpmijgkcaaW.PrintMore
attribute [local go_sem] max2_int min2_int max_two min_two max_three min_three max_four min_four   -- for this text's walks alone
set_option linter.unusedVariables false
set_option linter.unusedSimpArgs false


attribute [local go_sem high] eqA32
/-! ### affine_Inverse_1: function 47 -/
def affine_Inverse_1.f (k : Nat) (a0 : Int) (a1_0 : Int) : Option (Int) := (num_Div.f k (wrap64 ((wrap64 (a0 * 65536)) * 65536)) a1_0).bind fun t148 => (some t148)
theorem affine_Inverse_1.mono : ∀ a0 a1 k, LeO (affine_Inverse_1.f k a0 a1) (affine_Inverse_1.f (k + 1) a0 a1) := by
 intro a0 a1 k
 unfold affine_Inverse_1.f
 repeat' first
   | (with_reducible exact num_Div.mono _ _ _)
   | (with_reducible exact LeO.refl _)
   | (with_reducible exact LeO.none _)
   | (with_reducible refine LeO.ite ?_ ?_)
   | (with_reducible refine LeO.bind ?_ (fun _ => ?_))
   | exact num_Div.mono _ _ _
   | exact LeO.none _
   | refine LeO.ite ?_ ?_
   | refine LeO.bind ?_ (fun _ => ?_)
set_option maxHeartbeats 8000000 in
set_option maxRecDepth 100000 in
theorem affine_Inverse_1.calls (k : Nat) (a0 : Int) (E0 : Nat) (a1_0 : Int) (r : Int) (w : World) (hp1_0 : w.heap[E0]? = some (.cells #[.int .i64 a1_0] 3 (0, 0))) (h : affine_Inverse_1.f k a0 a1_0 = some r) :
  Calls Try.prog 47 #[.int .i64 a0, .pointer (some ⟨E0, 0, none⟩)] w fun e w' => e = .returned (.int .i64 r) ∧ Below w.heap.size w w' := by
 have E1 := Aside0.mk hp1_0
 have GL147 := Aside0.mk (show E0 < w.heap.size from blk_lt hp1_0)
 clear hp1_0
 have HB := Aside0.mk (Below.refl w.heap.size w)
 have H : ((num_Div.f k (wrap64 ((wrap64 (a0 * 65536)) * 65536)) a1_0).bind fun t148 => (some t148)) = some r := h
 clear h
 replace H := Option.bind_eq_some_iff.mp H
 obtain ⟨t148, A30, H⟩ := H
 try dsimp only at H
 have A3 := Aside0.mk A30
 clear A30
 obtain rfl := Option.some.inj H
 obtain ⟨E2, E3⟩ := zq1 E1
 go_enter Try.func47, Try.ntmps47
 go_wp2_with (first | ((with_reducible refine gate_callee (f := 39) rfl ?_); refine goesL_ (some 8) rfl rfl Try.func39 (by kernel_rfl) rfl #[.int .i64 (wrap64 ((wrap64 (a0 * 65536)) * 65536)), .int .i64 a1_0] rfl (by (try simp only [List.map_toArray, List.map_cons, List.map_nil]); first | done | rfl | (simp only [List.length_drop, List.length_take]; rfl)) ?_; (with_reducible refine (num_Div.calls k (wrap64 ((wrap64 (a0 * 65536)) * 65536)) a1_0 t148 _ A3.out).mono ?_); rintro e w' ⟨rfl, ⟨nd, rfl⟩⟩; refine ⟨_, rfl, ?_⟩))
 go_ret
 exact ⟨by first | rfl | (simp [errW_none, errW_some] <;> rfl) | (simp [*, errW_none, errW_some] <;> rfl), by exact zb0 HB⟩

/-! ### affine_dot: function 48 -/
def affine_dot.f (k : Nat) (a0 : Int) (a1 : Int) (a2 : Int) (a3 : Int) : Option (Int) := (num_Floor.f a2 65536).bind fun t149 => ((num_Floor.f a3 65536).bind fun t150 => ((num_Div.f k (wrap64 ((wrap64 (a0 * (wrap64 (a2 - (wrap64 (t149 * 65536)))))) + (wrap64 (a1 * (wrap64 (a3 - (wrap64 (t150 * 65536)))))))) 65536).bind fun t151 => (some (wrap64 ((wrap64 ((wrap64 (a0 * t149)) + (wrap64 (a1 * t150)))) + t151)))))
theorem affine_dot.mono : ∀ a0 a1 a2 a3 k, LeO (affine_dot.f k a0 a1 a2 a3) (affine_dot.f (k + 1) a0 a1 a2 a3) := by
 intro a0 a1 a2 a3 k
 unfold affine_dot.f
 repeat' first
   | (with_reducible exact num_Div.mono _ _ _)
   | (with_reducible exact LeO.refl _)
   | (with_reducible exact LeO.none _)
   | (with_reducible refine LeO.ite ?_ ?_)
   | (with_reducible refine LeO.bind ?_ (fun _ => ?_))
   | exact num_Div.mono _ _ _
   | exact LeO.none _
   | refine LeO.ite ?_ ?_
   | refine LeO.bind ?_ (fun _ => ?_)
set_option maxHeartbeats 8000000 in
set_option maxRecDepth 100000 in
theorem affine_dot.calls (k : Nat) (a0 : Int) (a1 : Int) (a2 : Int) (a3 : Int) (r : Int) (w : World) (h : affine_dot.f k a0 a1 a2 a3 = some r) :
  Calls Try.prog 48 #[.int .i64 a0, .int .i64 a1, .int .i64 a2, .int .i64 a3] w fun e w' => e = .returned (.int .i64 r) ∧ Drawn0 w w' := by
 have H : ((num_Floor.f a2 65536).bind fun t149 => ((num_Floor.f a3 65536).bind fun t150 => ((num_Div.f k (wrap64 ((wrap64 (a0 * (wrap64 (a2 - (wrap64 (t149 * 65536)))))) + (wrap64 (a1 * (wrap64 (a3 - (wrap64 (t150 * 65536)))))))) 65536).bind fun t151 => (some (wrap64 ((wrap64 ((wrap64 (a0 * t149)) + (wrap64 (a1 * t150)))) + t151)))))) = some r := h
 clear h
 replace H := Option.bind_eq_some_iff.mp H
 obtain ⟨t149, A50, H⟩ := H
 try dsimp only at H
 have A5 := Aside0.mk A50
 clear A50
 replace H := Option.bind_eq_some_iff.mp H
 obtain ⟨t150, A60, H⟩ := H
 try dsimp only at H
 have A6 := Aside0.mk A60
 clear A60
 replace H := Option.bind_eq_some_iff.mp H
 obtain ⟨t151, A70, H⟩ := H
 try dsimp only at H
 have A7 := Aside0.mk A70
 clear A70
 obtain rfl := Option.some.inj H
 go_enter Try.func48, Try.ntmps48
 go_wp2_with (first | ((with_reducible refine gate_callee (f := 64) rfl ?_); refine goesL_ (some 14) rfl rfl Try.func64 (by kernel_rfl) rfl #[.int .i64 a2, .int .i64 65536] rfl (by (try simp only [List.map_toArray, List.map_cons, List.map_nil]); first | done | rfl | (simp only [List.length_drop, List.length_take]; rfl)) ?_; (with_reducible refine (num_Floor.calls a2 65536 t149 _ A5.out).mono ?_); rintro e w' ⟨rfl, ⟨nd, rfl⟩⟩; refine ⟨_, rfl, ?_⟩) | ((with_reducible refine gate_callee (f := 64) rfl ?_); refine goesL_ (some 16) rfl rfl Try.func64 (by kernel_rfl) rfl #[.int .i64 a3, .int .i64 65536] rfl (by (try simp only [List.map_toArray, List.map_cons, List.map_nil]); first | done | rfl | (simp only [List.length_drop, List.length_take]; rfl)) ?_; (with_reducible refine (num_Floor.calls a3 65536 t150 _ A6.out).mono ?_); rintro e w' ⟨rfl, ⟨nd, rfl⟩⟩; refine ⟨_, rfl, ?_⟩) | ((with_reducible refine gate_callee (f := 39) rfl ?_); refine goesL_ (some 39) rfl rfl Try.func39 (by kernel_rfl) rfl #[.int .i64 (wrap64 ((wrap64 (a0 * (wrap64 (a2 - (wrap64 (t149 * 65536)))))) + (wrap64 (a1 * (wrap64 (a3 - (wrap64 (t150 * 65536)))))))), .int .i64 65536] rfl (by (try simp only [List.map_toArray, List.map_cons, List.map_nil]); first | done | rfl | (simp only [List.length_drop, List.length_take]; rfl)) ?_; (with_reducible refine (num_Div.calls k (wrap64 ((wrap64 (a0 * (wrap64 (a2 - (wrap64 (t149 * 65536)))))) + (wrap64 (a1 * (wrap64 (a3 - (wrap64 (t150 * 65536)))))))) 65536 t151 _ A7.out).mono ?_); rintro e w' ⟨rfl, ⟨nd, rfl⟩⟩; refine ⟨_, rfl, ?_⟩))
 go_ret
 exact ⟨by first | rfl | (simp; done) | (simp [*]; done), by repeat (first | exact Drawn0.refl _ | apply Drawn0.step)⟩

end Go.Proofs.Ytapdifpmijgkcaa.G
