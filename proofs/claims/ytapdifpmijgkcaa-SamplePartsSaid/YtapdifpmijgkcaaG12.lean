/- Contracts of functions of the program, each as it is called: what it computes (.f), that it computes no less with more rounds (.mono), and that a call returns just that (.calls). No conditions but those that each contract names. Written by a program of this session (wip/gx.py over the kit's print). -/
import Derived.Test.YtapdifpmijgkcaaG0
import Derived.Test.YtapdifpmijgkcaaG8
import Derived.Test.YtapdifpmijgkcaaG9
import Derived.Test.YtapdifpmijgkcaaG11
namespace Go.Proofs.Ytapdifpmijgkcaa.G
open Go.RowKit Go.Proofs.YtapdifpmijgkcaaW.PrintWords Go.Proofs.YtapdifpmijgkcaaW.PrintLast Go.Proofs.YtapdifpmijgkcaaW.PrintMore
attribute [local go_sem] max2_int min2_int max_two min_two max_three min_three max_four min_four   -- for this text's walks alone
set_option linter.unusedVariables false
set_option linter.unusedSimpArgs false


attribute [local go_sem high] eqA27 eqA37
/-! ### imageeditorlaw14_awake: function 10 -/
mutual
def imageeditorlaw14_awake.j0 : Nat → Bool → Int → Int → Int → Int → Int → Int → Int → Int → Int → Int → List (S37) → Int → Int → Int → Int → Option (Bool)
 | 0, _, _, _, _, _, _, _, _, _, _, _, _, _, _, _, _ => none
 | k + 1, x36, Y7, Y8, Y9, Z0, Z1, Z2, Z3, Z4, G8, G9, V0, V1, V2, V3, V4 => if x36 = true then (some false) else ((sample_Draw.f k G8 G9 V0 131072 0 0 131072 0 0 0 0 0 4 2).bind fun Z5 => (if Z5.2.2.2 = 0 then ((imageeditorlaw14_same.f k Z5.1 Z5.2.1 Z5.2.2.1 4 2 (([(⟨Y7, Y8, Y9, Z0⟩ : S37), (⟨Y7, Y8, Y9, Z0⟩ : S37), (⟨Z1, Z2, Z3, Z4⟩ : S37), (⟨Z1, Z2, Z3, Z4⟩ : S37), (⟨Y7, Y8, Y9, Z0⟩ : S37), (⟨Y7, Y8, Y9, Z0⟩ : S37), (⟨Z1, Z2, Z3, Z4⟩ : S37), (⟨Z1, Z2, Z3, Z4⟩ : S37)] : List (S37)))).bind fun t412 => (imageeditorlaw14_awake.j1 k (!t412) G8 G9 V0 V1 V2 V3 V4)) else (imageeditorlaw14_awake.j1 k true G8 G9 V0 V1 V2 V3 V4)))
def imageeditorlaw14_awake.j1 : Nat → Bool → Int → Int → List (S37) → Int → Int → Int → Int → Option (Bool)
 | 0, _, _, _, _, _, _, _, _ => none
 | k + 1, x60, G8, G9, V0, V1, V2, V3, V4 => if x60 = true then (some false) else ((sample_Needs.f k 65536 0 0 65536 0 0 1 0 0 4 4).bind fun Y0 => (if Y0.2.2.2.2 = 0 then (imageeditorlaw14_awake.j2 k (!(Y0.1 == (-2)) || (!(Y0.2.1 == (-2)) || (!(Y0.2.2.1 == 8) || (!(Y0.2.2.2.1 == 8))))) G8 G9 V0 V1 V2 V3 V4) else (imageeditorlaw14_awake.j2 k true G8 G9 V0 V1 V2 V3 V4)))
def imageeditorlaw14_awake.j2 : Nat → Bool → Int → Int → List (S37) → Int → Int → Int → Int → Option (Bool)
 | 0, _, _, _, _, _, _, _, _ => none
 | k + 1, x73, G8, G9, V0, V1, V2, V3, V4 => if x73 = true then (some false) else ((sample_Resize.f k G8 G9 V0 1 1 1).bind fun Z6 => (if Z6.2.2.2 = 0 then ((imageeditorlaw14_same.f k Z6.1 Z6.2.1 Z6.2.2.1 1 1 (([(⟨V1, V2, V3, V4⟩ : S37)] : List (S37)))).bind fun t428 => (some t428)) else (some false)))
end
def imageeditorlaw14_awake.f (k : Nat)  : Option (Bool) := (some (([(⟨65535, 0, 0, 65535⟩ : S37), (⟨0, 0, 0, 65535⟩ : S37)] : List (S37)) : List (S37))).bind fun y381 => ((sample_At.f k 2 1 y381 1 65536 32768).bind fun G1 => (if (!(G1.1 == 32768) || (!(G1.2.1 == 0) || (!(G1.2.2.1 == 0) || (!(G1.2.2.2 == 65535))))) = true then (imageeditorlaw14_awake.j0 k true 65535 0 0 65535 0 0 0 65535 2 1 y381 32768 0 0 65535) else ((sample_At.f k 2 1 y381 1 0 32768).bind fun G2 => (if (!(G2.1 == 65535) || (!(G2.2.1 == 0) || (!(G2.2.2.1 == 0) || (!(G2.2.2.2 == 32768))))) = true then (imageeditorlaw14_awake.j0 k true 65535 0 0 65535 0 0 0 65535 2 1 y381 32768 0 0 65535) else ((sample_At.f k 2 1 y381 0 65536 0).bind fun G3 => (if (!(G3.1 == 0) || (!(G3.2.1 == 0) || (!(G3.2.2.1 == 0) || (!(G3.2.2.2 == 65535))))) = true then (imageeditorlaw14_awake.j0 k true 65535 0 0 65535 0 0 0 65535 2 1 y381 32768 0 0 65535) else ((sample_At.f k 2 1 y381 0 (-1) 0).bind fun G4 => (imageeditorlaw14_awake.j0 k (!(G4.1 == 0) || (!(G4.2.1 == 0) || (!(G4.2.2.1 == 0) || (!(G4.2.2.2 == 0))))) 65535 0 0 65535 0 0 0 65535 2 1 y381 32768 0 0 65535))))))))
theorem imageeditorlaw14_awake.mono_l : ∀ k, (∀ y0 y1 y2 y3 y4 y5 y6 y7 y8 y9 y10 y11 y12 y13 y14 y15, LeO (imageeditorlaw14_awake.j0 k y0 y1 y2 y3 y4 y5 y6 y7 y8 y9 y10 y11 y12 y13 y14 y15) (imageeditorlaw14_awake.j0 (k + 1) y0 y1 y2 y3 y4 y5 y6 y7 y8 y9 y10 y11 y12 y13 y14 y15)) ∧ (∀ y0 y1 y2 y3 y4 y5 y6 y7, LeO (imageeditorlaw14_awake.j1 k y0 y1 y2 y3 y4 y5 y6 y7) (imageeditorlaw14_awake.j1 (k + 1) y0 y1 y2 y3 y4 y5 y6 y7)) ∧ (∀ y0 y1 y2 y3 y4 y5 y6 y7, LeO (imageeditorlaw14_awake.j2 k y0 y1 y2 y3 y4 y5 y6 y7) (imageeditorlaw14_awake.j2 (k + 1) y0 y1 y2 y3 y4 y5 y6 y7))
 | 0 => ⟨fun _ _ _ _ _ _ _ _ _ _ _ _ _ _ _ _ r h => by simp [imageeditorlaw14_awake.j0] at h, fun _ _ _ _ _ _ _ _ r h => by simp [imageeditorlaw14_awake.j1] at h, fun _ _ _ _ _ _ _ _ r h => by simp [imageeditorlaw14_awake.j2] at h⟩
 | k + 1 => by
  obtain ⟨ih0, ih1, ih2⟩ := imageeditorlaw14_awake.mono_l k
  refine ⟨?_, ?_, ?_⟩
  ·intro y0 y1 y2 y3 y4 y5 y6 y7 y8 y9 y10 y11 y12 y13 y14 y15
   unfold imageeditorlaw14_awake.j0
   repeat' first
   | (with_reducible exact ih0 _ _ _ _ _ _ _ _ _ _ _ _ _ _ _ _)
   | (with_reducible exact ih1 _ _ _ _ _ _ _ _)
   | (with_reducible exact ih2 _ _ _ _ _ _ _ _)
   | (with_reducible exact imageeditorlaw14_same.mono _ _ _ _ _ _ _)
   | (with_reducible exact sample_At.mono _ _ _ _ _ _ _)
   | (with_reducible exact sample_Draw.mono _ _ _ _ _ _ _ _ _ _ _ _ _ _ _)
   | (with_reducible exact sample_Needs.mono _ _ _ _ _ _ _ _ _ _ _ _)
   | (with_reducible exact sample_Resize.mono _ _ _ _ _ _ _)
   | (with_reducible exact LeO.refl _)
   | (with_reducible exact LeO.none _)
   | (with_reducible refine LeO.ite ?_ ?_)
   | (with_reducible refine LeO.bind ?_ (fun _ => ?_))
   | exact ih0 _ _ _ _ _ _ _ _ _ _ _ _ _ _ _ _
   | exact ih1 _ _ _ _ _ _ _ _
   | exact ih2 _ _ _ _ _ _ _ _
   | exact imageeditorlaw14_same.mono _ _ _ _ _ _ _
   | exact sample_At.mono _ _ _ _ _ _ _
   | exact sample_Draw.mono _ _ _ _ _ _ _ _ _ _ _ _ _ _ _
   | exact sample_Needs.mono _ _ _ _ _ _ _ _ _ _ _ _
   | exact sample_Resize.mono _ _ _ _ _ _ _
   | exact LeO.none _
   | refine LeO.ite ?_ ?_
   | refine LeO.bind ?_ (fun _ => ?_)
  ·intro y0 y1 y2 y3 y4 y5 y6 y7
   unfold imageeditorlaw14_awake.j1
   repeat' first
   | (with_reducible exact ih0 _ _ _ _ _ _ _ _ _ _ _ _ _ _ _ _)
   | (with_reducible exact ih1 _ _ _ _ _ _ _ _)
   | (with_reducible exact ih2 _ _ _ _ _ _ _ _)
   | (with_reducible exact imageeditorlaw14_same.mono _ _ _ _ _ _ _)
   | (with_reducible exact sample_At.mono _ _ _ _ _ _ _)
   | (with_reducible exact sample_Draw.mono _ _ _ _ _ _ _ _ _ _ _ _ _ _ _)
   | (with_reducible exact sample_Needs.mono _ _ _ _ _ _ _ _ _ _ _ _)
   | (with_reducible exact sample_Resize.mono _ _ _ _ _ _ _)
   | (with_reducible exact LeO.refl _)
   | (with_reducible exact LeO.none _)
   | (with_reducible refine LeO.ite ?_ ?_)
   | (with_reducible refine LeO.bind ?_ (fun _ => ?_))
   | exact ih0 _ _ _ _ _ _ _ _ _ _ _ _ _ _ _ _
   | exact ih1 _ _ _ _ _ _ _ _
   | exact ih2 _ _ _ _ _ _ _ _
   | exact imageeditorlaw14_same.mono _ _ _ _ _ _ _
   | exact sample_At.mono _ _ _ _ _ _ _
   | exact sample_Draw.mono _ _ _ _ _ _ _ _ _ _ _ _ _ _ _
   | exact sample_Needs.mono _ _ _ _ _ _ _ _ _ _ _ _
   | exact sample_Resize.mono _ _ _ _ _ _ _
   | exact LeO.none _
   | refine LeO.ite ?_ ?_
   | refine LeO.bind ?_ (fun _ => ?_)
  ·intro y0 y1 y2 y3 y4 y5 y6 y7
   unfold imageeditorlaw14_awake.j2
   repeat' first
   | (with_reducible exact ih0 _ _ _ _ _ _ _ _ _ _ _ _ _ _ _ _)
   | (with_reducible exact ih1 _ _ _ _ _ _ _ _)
   | (with_reducible exact ih2 _ _ _ _ _ _ _ _)
   | (with_reducible exact imageeditorlaw14_same.mono _ _ _ _ _ _ _)
   | (with_reducible exact sample_At.mono _ _ _ _ _ _ _)
   | (with_reducible exact sample_Draw.mono _ _ _ _ _ _ _ _ _ _ _ _ _ _ _)
   | (with_reducible exact sample_Needs.mono _ _ _ _ _ _ _ _ _ _ _ _)
   | (with_reducible exact sample_Resize.mono _ _ _ _ _ _ _)
   | (with_reducible exact LeO.refl _)
   | (with_reducible exact LeO.none _)
   | (with_reducible refine LeO.ite ?_ ?_)
   | (with_reducible refine LeO.bind ?_ (fun _ => ?_))
   | exact ih0 _ _ _ _ _ _ _ _ _ _ _ _ _ _ _ _
   | exact ih1 _ _ _ _ _ _ _ _
   | exact ih2 _ _ _ _ _ _ _ _
   | exact imageeditorlaw14_same.mono _ _ _ _ _ _ _
   | exact sample_At.mono _ _ _ _ _ _ _
   | exact sample_Draw.mono _ _ _ _ _ _ _ _ _ _ _ _ _ _ _
   | exact sample_Needs.mono _ _ _ _ _ _ _ _ _ _ _ _
   | exact sample_Resize.mono _ _ _ _ _ _ _
   | exact LeO.none _
   | refine LeO.ite ?_ ?_
   | refine LeO.bind ?_ (fun _ => ?_)
theorem imageeditorlaw14_awake.mono : ∀ k, LeO (imageeditorlaw14_awake.f k ) (imageeditorlaw14_awake.f (k + 1) ) := by
 intro  k
 obtain ⟨ih0, ih1, ih2⟩ := imageeditorlaw14_awake.mono_l k
 unfold imageeditorlaw14_awake.f
 repeat' first
   | (with_reducible exact ih0 _ _ _ _ _ _ _ _ _ _ _ _ _ _ _ _)
   | (with_reducible exact ih1 _ _ _ _ _ _ _ _)
   | (with_reducible exact ih2 _ _ _ _ _ _ _ _)
   | (with_reducible exact imageeditorlaw14_same.mono _ _ _ _ _ _ _)
   | (with_reducible exact sample_At.mono _ _ _ _ _ _ _)
   | (with_reducible exact sample_Draw.mono _ _ _ _ _ _ _ _ _ _ _ _ _ _ _)
   | (with_reducible exact sample_Needs.mono _ _ _ _ _ _ _ _ _ _ _ _)
   | (with_reducible exact sample_Resize.mono _ _ _ _ _ _ _)
   | (with_reducible exact LeO.refl _)
   | (with_reducible exact LeO.none _)
   | (with_reducible refine LeO.ite ?_ ?_)
   | (with_reducible refine LeO.bind ?_ (fun _ => ?_))
   | exact ih0 _ _ _ _ _ _ _ _ _ _ _ _ _ _ _ _
   | exact ih1 _ _ _ _ _ _ _ _
   | exact ih2 _ _ _ _ _ _ _ _
   | exact imageeditorlaw14_same.mono _ _ _ _ _ _ _
   | exact sample_At.mono _ _ _ _ _ _ _
   | exact sample_Draw.mono _ _ _ _ _ _ _ _ _ _ _ _ _ _ _
   | exact sample_Needs.mono _ _ _ _ _ _ _ _ _ _ _ _
   | exact sample_Resize.mono _ _ _ _ _ _ _
   | exact LeO.none _
   | refine LeO.ite ?_ ?_
   | refine LeO.bind ?_ (fun _ => ?_)
def imageeditorlaw14_awake.T4 : Bool × List (List Nat × List Nat) := (true, [([], []), ([0], [0]), ([], []), ([1, 2], [1, 2]), ([3, 1], [3]), ([4], [4]), ([5, 4, 4], [4, 5]), ([4], [4]), ([6, 7, 4], [4, 6, 7]), ([4, 8], [4, 8]), ([9, 6], [9]), ([10], [10]), ([11, 10, 10], [10, 11]), ([10], [10]), ([12, 13, 10], [10, 12, 13]), ([10, 14], [10, 14]), ([15, 12], [15]), ([16], [16]), ([17, 16, 16], [16, 17]), ([16], [16]), ([18, 19, 16], [16, 18, 19]), ([16, 20], [16, 20])])
def imageeditorlaw14_awake.B4 : List Nat := [0, 1, 0, 7, 15, 31, 63, 31, 255, 511, 1023, 2047, 4095, 2047, 16383, 32767, 65535, 131071, 262143, 131071, 1048575, 2097151]
theorem imageeditorlaw14_awake.tab4 : rtab .any (opsOf Try.f10 4) = imageeditorlaw14_awake.T4 := by kernel_rfl
theorem imageeditorlaw14_awake.bits4 : waitsOk imageeditorlaw14_awake.T4.2 imageeditorlaw14_awake.B4 = true := by kernel_rfl
set_option maxHeartbeats 8000000 in
set_option maxRecDepth 100000 in
theorem imageeditorlaw14_awake.callsT (k : Nat)  (r : Bool) (w : World) (hT : r = true) (h : imageeditorlaw14_awake.f k  = some r) :
  Calls Try.prog 10 #[] w fun e w' => e = .returned (.bool r) ∧ Below w.heap.size w w' := by
 have hu37 := Try.underlying37
 have hu24 := Try.underlying24
 have hu32 := Try.underlying32
 have hu27 := Try.underlying27
 have HT := Aside0.mk hT
 clear hT
 have HB := Aside0.mk (Below.refl w.heap.size w)
 have H : ((some (([(⟨65535, 0, 0, 65535⟩ : S37), (⟨0, 0, 0, 65535⟩ : S37)] : List (S37)) : List (S37))).bind fun y381 => ((sample_At.f k 2 1 y381 1 65536 32768).bind fun G1 => (if (!(G1.1 == 32768) || (!(G1.2.1 == 0) || (!(G1.2.2.1 == 0) || (!(G1.2.2.2 == 65535))))) = true then (imageeditorlaw14_awake.j0 k true 65535 0 0 65535 0 0 0 65535 2 1 y381 32768 0 0 65535) else ((sample_At.f k 2 1 y381 1 0 32768).bind fun G2 => (if (!(G2.1 == 65535) || (!(G2.2.1 == 0) || (!(G2.2.2.1 == 0) || (!(G2.2.2.2 == 32768))))) = true then (imageeditorlaw14_awake.j0 k true 65535 0 0 65535 0 0 0 65535 2 1 y381 32768 0 0 65535) else ((sample_At.f k 2 1 y381 0 65536 0).bind fun G3 => (if (!(G3.1 == 0) || (!(G3.2.1 == 0) || (!(G3.2.2.1 == 0) || (!(G3.2.2.2 == 65535))))) = true then (imageeditorlaw14_awake.j0 k true 65535 0 0 65535 0 0 0 65535 2 1 y381 32768 0 0 65535) else ((sample_At.f k 2 1 y381 0 (-1) 0).bind fun G4 => (imageeditorlaw14_awake.j0 k (!(G4.1 == 0) || (!(G4.2.1 == 0) || (!(G4.2.2.1 == 0) || (!(G4.2.2.2 == 0))))) 65535 0 0 65535 0 0 0 65535 2 1 y381 32768 0 0 65535))))))))) = some r := h
 clear h
 obtain ⟨y381, hy381⟩ : ∃ y_ : List (S37), y_ = (([(⟨65535, 0, 0, 65535⟩ : S37), (⟨0, 0, 0, 65535⟩ : S37)] : List (S37))) := ⟨_, rfl⟩
 replace H : ((sample_At.f k 2 1 y381 1 65536 32768).bind fun G1 => (if (!(G1.1 == 32768) || (!(G1.2.1 == 0) || (!(G1.2.2.1 == 0) || (!(G1.2.2.2 == 65535))))) = true then (imageeditorlaw14_awake.j0 k true 65535 0 0 65535 0 0 0 65535 2 1 y381 32768 0 0 65535) else ((sample_At.f k 2 1 y381 1 0 32768).bind fun G2 => (if (!(G2.1 == 65535) || (!(G2.2.1 == 0) || (!(G2.2.2.1 == 0) || (!(G2.2.2.2 == 32768))))) = true then (imageeditorlaw14_awake.j0 k true 65535 0 0 65535 0 0 0 65535 2 1 y381 32768 0 0 65535) else ((sample_At.f k 2 1 y381 0 65536 0).bind fun G3 => (if (!(G3.1 == 0) || (!(G3.2.1 == 0) || (!(G3.2.2.1 == 0) || (!(G3.2.2.2 == 65535))))) = true then (imageeditorlaw14_awake.j0 k true 65535 0 0 65535 0 0 0 65535 2 1 y381 32768 0 0 65535) else ((sample_At.f k 2 1 y381 0 (-1) 0).bind fun G4 => (imageeditorlaw14_awake.j0 k (!(G4.1 == 0) || (!(G4.2.1 == 0) || (!(G4.2.2.1 == 0) || (!(G4.2.2.2 == 0))))) 65535 0 0 65535 0 0 0 65535 2 1 y381 32768 0 0 65535)))))))) = some r := by first | (rw [hy381]; with_reducible exact H) | (have H2_ := (Option.bind_some _ _).symm.trans H; rw [hy381]; with_reducible exact H2_) | (have H2_ := (Option.bind_some _ _).symm.trans H; with_reducible exact H2_) | with_reducible exact H | (rw [hy381]; exact H) | exact H
 have Ny381 := Aside0.mk hy381
 clear hy381
 have HC1 := Aside0.mk H
 clear H
 go_enter Try.func10, Try.ntmps10
 go_upto_region 4 with (first | ((with_reducible refine gate_dst (N := 1) rfl ?_); (try (refine gate_guard (by rfl) ?_; dsimp only)); refine box_event ?hg (N := 1) ?hd (cs := #[.int .i64 0, .int .i64 0, .int .i64 0, .int .i64 0]) (t := 37) ?hr ?_; (case hd => rfl); (case hg => rfl); (case hr => first | (go_simp; done) | (go_simp; rfl)); intro E9 hg w2 hbox hb; have E0V := zg HB hg; have J9 := zg HB hg; have n0_ := Aside0.mk (hbox); replace HB := zb HB hb; have E4 := n0_; clear n0_; clear hb hbox hg) | ((with_reducible refine gate_dst (N := 2) rfl ?_); (try (refine gate_guard (by rfl) ?_; dsimp only)); refine box_event ?hg (N := 2) ?hd (cs := #[.int .i64 0, .int .i64 0, .int .i64 0, .int .i64 0]) (t := 37) ?hr ?_; (case hd => rfl); (case hg => rfl); (case hr => first | (go_simp; done) | (go_simp; rfl)); intro E7 hg w3 hbox hb; have E0W := zg HB hg; have L0 := zg HB hg; have G6 := zn E4 hg; have G7 := zn' E4 hg; have n0_ := Aside0.mk (hbox); replace E4 := zk E4 hb; replace HB := zb HB hb; have E3 := n0_; clear n0_; clear hb hbox hg; have E0X := G6.out; have E0Y := G7.out; obtain ⟨E0Z, E1a, E1b, E1c, E1d, E1e, E1f, E1g⟩ := zq4 E4; obtain ⟨E1h, E1i, E1j, E1k, E1l, E1m, E1n, E1o⟩ := zq4 E3) | ((with_reducible refine gate_dst (N := 12) rfl ?_); (try (refine gate_guard (by rfl) ?_; dsimp only)); refine Kd.R_lit k37 _ 37 ?hg (N := 12) ?hd (xs := ([(⟨65535, 0, 0, 65535⟩ : S37), (⟨0, 0, 0, 65535⟩ : S37)] : List (S37))) (inner := [.int .i64 65535, .int .i64 0, .int .i64 0, .int .i64 65535, .int .i64 0, .int .i64 0, .int .i64 0, .int .i64 65535]) (ok := fun _ => True) (okp := fun _ => True) ?hr ?hp (fun _ hk => hk) trivial (Below.refl _ _) (Nat.le_refl _) (by simp) ?_; (case hd => rfl); (case hg => rfl); (case hr => first | (go_simp; done) | (go_simp; rfl)); (case hp => exact (Reps.c4 (show Kd.M k37 _ _ _ (⟨65535, 0, 0, 65535⟩ : S37) [.int .i64 65535, .int .i64 0, .int .i64 0, .int .i64 65535] from (k37_mkM _ _ _ (⟨65535, 0, 0, 65535⟩ : S37) )) (Reps.c4 (show Kd.M k37 _ _ _ (⟨0, 0, 0, 65535⟩ : S37) [.int .i64 0, .int .i64 0, .int .i64 0, .int .i64 65535] from (k37_mkM _ _ _ (⟨0, 0, 0, 65535⟩ : S37) )) (Reps.none _ _)))); intro v382 w7 ho8 hb hg_ hnew_; clear hg_ hnew_; (first | rw [← Ny381.out] at ho8 | (simp only [Int.reduceToNat] at ho8; rw [← Ny381.out] at ho8)); have n0_ := Aside0.mk (Kd.R_lower (Kd.R_newB (Kd.R_newB ho8 (g := E9) (o := .cells #[.int .i64 65535, .int .i64 0, .int .i64 0, .int .i64 65535] 37 (0, 0)) (by (with_reducible repeat (first | refine blk_drewN ?_ _ | refine blk_drew ?_ | refine blk_alloc ?_ _)); refine blk_far ?_ G6.out _; (with_reducible repeat (first | refine blk_drewN ?_ _ | refine blk_drew ?_ | refine blk_alloc ?_ _)); refine blk_far ?_ G6.out _; (with_reducible repeat (first | refine blk_drewN ?_ _ | refine blk_drew ?_ | refine blk_alloc ?_ _)); refine blk_far ?_ G6.out _; (with_reducible repeat (first | refine blk_drewN ?_ _ | refine blk_drew ?_ | refine blk_alloc ?_ _)); refine blk_far ?_ G6.out _; (with_reducible repeat (first | refine blk_drewN ?_ _ | refine blk_drew ?_ | refine blk_alloc ?_ _)); refine blk_put (cs := #[.int .i64 65535, .int .i64 0, .int .i64 0, .int .i64 0]) ?_ 3 _ rfl; (with_reducible repeat (first | refine blk_drewN ?_ _ | refine blk_drew ?_ | refine blk_alloc ?_ _)); refine blk_put (cs := #[.int .i64 65535, .int .i64 0, .int .i64 0, .int .i64 0]) ?_ 2 _ rfl; (with_reducible repeat (first | refine blk_drewN ?_ _ | refine blk_drew ?_ | refine blk_alloc ?_ _)); refine blk_put (cs := #[.int .i64 65535, .int .i64 0, .int .i64 0, .int .i64 0]) ?_ 1 _ rfl; (with_reducible repeat (first | refine blk_drewN ?_ _ | refine blk_drew ?_ | refine blk_alloc ?_ _)); refine blk_put (cs := #[.int .i64 0, .int .i64 0, .int .i64 0, .int .i64 0]) ?_ 0 _ rfl; (with_reducible repeat (first | refine blk_drewN ?_ _ | refine blk_drew ?_ | refine blk_alloc ?_ _)); exact E4.out)) (g := E7) (o := .cells #[.int .i64 0, .int .i64 0, .int .i64 0, .int .i64 65535] 37 (0, 0)) (by (with_reducible repeat (first | refine blk_drewN ?_ _ | refine blk_drew ?_ | refine blk_alloc ?_ _)); refine blk_put (cs := #[.int .i64 0, .int .i64 0, .int .i64 0, .int .i64 0]) ?_ 3 _ rfl; (with_reducible repeat (first | refine blk_drewN ?_ _ | refine blk_drew ?_ | refine blk_alloc ?_ _)); refine blk_put (cs := #[.int .i64 0, .int .i64 0, .int .i64 0, .int .i64 0]) ?_ 2 _ rfl; (with_reducible repeat (first | refine blk_drewN ?_ _ | refine blk_drew ?_ | refine blk_alloc ?_ _)); refine blk_put (cs := #[.int .i64 0, .int .i64 0, .int .i64 0, .int .i64 0]) ?_ 1 _ rfl; (with_reducible repeat (first | refine blk_drewN ?_ _ | refine blk_drew ?_ | refine blk_alloc ?_ _)); refine blk_put (cs := #[.int .i64 0, .int .i64 0, .int .i64 0, .int .i64 0]) ?_ 0 _ rfl; (with_reducible repeat (first | refine blk_drewN ?_ _ | refine blk_drew ?_ | refine blk_alloc ?_ _)); refine blk_far ?_ G7.out _; (with_reducible repeat (first | refine blk_drewN ?_ _ | refine blk_drew ?_ | refine blk_alloc ?_ _)); refine blk_far ?_ G7.out _; (with_reducible repeat (first | refine blk_drewN ?_ _ | refine blk_drew ?_ | refine blk_alloc ?_ _)); refine blk_far ?_ G7.out _; (with_reducible repeat (first | refine blk_drewN ?_ _ | refine blk_drew ?_ | refine blk_alloc ?_ _)); refine blk_far ?_ G7.out _; (with_reducible repeat (first | refine blk_drewN ?_ _ | refine blk_drew ?_ | refine blk_alloc ?_ _)); exact E3.out)) (below_size (by repeat (first | (with_reducible first | exact HB.out | apply below_alloc | apply pw_below_drewN | apply below_drew1 | refine below_set ?_ J9.out | refine below_set ?_ L0.out) | exact HB.out)))); have n1_ := Aside0.mk (blk_below (g := E9) (o := .cells #[.int .i64 65535, .int .i64 0, .int .i64 0, .int .i64 65535] 37 (0, 0)) (by (with_reducible repeat (first | refine blk_drewN ?_ _ | refine blk_drew ?_ | refine blk_alloc ?_ _)); refine blk_far ?_ G6.out _; (with_reducible repeat (first | refine blk_drewN ?_ _ | refine blk_drew ?_ | refine blk_alloc ?_ _)); refine blk_far ?_ G6.out _; (with_reducible repeat (first | refine blk_drewN ?_ _ | refine blk_drew ?_ | refine blk_alloc ?_ _)); refine blk_far ?_ G6.out _; (with_reducible repeat (first | refine blk_drewN ?_ _ | refine blk_drew ?_ | refine blk_alloc ?_ _)); refine blk_far ?_ G6.out _; (with_reducible repeat (first | refine blk_drewN ?_ _ | refine blk_drew ?_ | refine blk_alloc ?_ _)); refine blk_put (cs := #[.int .i64 65535, .int .i64 0, .int .i64 0, .int .i64 0]) ?_ 3 _ rfl; (with_reducible repeat (first | refine blk_drewN ?_ _ | refine blk_drew ?_ | refine blk_alloc ?_ _)); refine blk_put (cs := #[.int .i64 65535, .int .i64 0, .int .i64 0, .int .i64 0]) ?_ 2 _ rfl; (with_reducible repeat (first | refine blk_drewN ?_ _ | refine blk_drew ?_ | refine blk_alloc ?_ _)); refine blk_put (cs := #[.int .i64 65535, .int .i64 0, .int .i64 0, .int .i64 0]) ?_ 1 _ rfl; (with_reducible repeat (first | refine blk_drewN ?_ _ | refine blk_drew ?_ | refine blk_alloc ?_ _)); refine blk_put (cs := #[.int .i64 0, .int .i64 0, .int .i64 0, .int .i64 0]) ?_ 0 _ rfl; (with_reducible repeat (first | refine blk_drewN ?_ _ | refine blk_drew ?_ | refine blk_alloc ?_ _)); exact E4.out) hb); have n2_ := Aside0.mk (blk_below (g := E7) (o := .cells #[.int .i64 0, .int .i64 0, .int .i64 0, .int .i64 65535] 37 (0, 0)) (by (with_reducible repeat (first | refine blk_drewN ?_ _ | refine blk_drew ?_ | refine blk_alloc ?_ _)); refine blk_put (cs := #[.int .i64 0, .int .i64 0, .int .i64 0, .int .i64 0]) ?_ 3 _ rfl; (with_reducible repeat (first | refine blk_drewN ?_ _ | refine blk_drew ?_ | refine blk_alloc ?_ _)); refine blk_put (cs := #[.int .i64 0, .int .i64 0, .int .i64 0, .int .i64 0]) ?_ 2 _ rfl; (with_reducible repeat (first | refine blk_drewN ?_ _ | refine blk_drew ?_ | refine blk_alloc ?_ _)); refine blk_put (cs := #[.int .i64 0, .int .i64 0, .int .i64 0, .int .i64 0]) ?_ 1 _ rfl; (with_reducible repeat (first | refine blk_drewN ?_ _ | refine blk_drew ?_ | refine blk_alloc ?_ _)); refine blk_put (cs := #[.int .i64 0, .int .i64 0, .int .i64 0, .int .i64 0]) ?_ 0 _ rfl; (with_reducible repeat (first | refine blk_drewN ?_ _ | refine blk_drew ?_ | refine blk_alloc ?_ _)); refine blk_far ?_ G7.out _; (with_reducible repeat (first | refine blk_drewN ?_ _ | refine blk_drew ?_ | refine blk_alloc ?_ _)); refine blk_far ?_ G7.out _; (with_reducible repeat (first | refine blk_drewN ?_ _ | refine blk_drew ?_ | refine blk_alloc ?_ _)); refine blk_far ?_ G7.out _; (with_reducible repeat (first | refine blk_drewN ?_ _ | refine blk_drew ?_ | refine blk_alloc ?_ _)); refine blk_far ?_ G7.out _; (with_reducible repeat (first | refine blk_drewN ?_ _ | refine blk_drew ?_ | refine blk_alloc ?_ _)); exact E3.out) hb); have n3_ := Aside0.mk (below_step (by repeat (first | (with_reducible first | exact HB.out | apply below_alloc | apply pw_below_drewN | apply below_drew1 | refine below_set ?_ J9.out | refine below_set ?_ L0.out) | exact HB.out)) hb); clear E4; clear E3; clear HB; have HO383 := n0_; have E4 := n1_; have E3 := n2_; have HB := n3_; clear n0_ n1_ n2_ n3_; clear hb ho8; obtain ⟨Ao9, co9, eo9⟩ := Kd.R_slice HO383.out; subst eo9) | ((with_reducible refine gate_dst (N := 3) rfl ?_); (try (refine gate_guard (by rfl) ?_; dsimp only)); refine box_event ?hg (N := 3) ?hd (cs := #[.int .i64 0, .int .i64 0, .slice none 0 0]) (t := 24) ?hr ?_; (case hd => rfl); (case hg => rfl); (case hr => first | (go_simp; done) | (go_simp; rfl)); intro E8 hg w10 hbox hb; have E1p := zg HB hg; have J4 := zg HB hg; have Y1 := zn E4 hg; have L1 := zn' E4 hg; have Y2 := zn E3 hg; have L2 := zn' E3 hg; have n0_ := Aside0.mk (hbox); replace HO383 := zr HO383 hb; replace E4 := zk E4 hb; replace E3 := zk E3 hb; replace HB := zb HB hb; have E2 := n0_; clear n0_; clear hb hbox hg; have E1q := L1.out; have E1r := Y1.out; have E1s := L2.out; have E1t := Y2.out; obtain ⟨E1u, E1v, E1w, E1x, E1y, E1z⟩ := zq3 E2) | ((with_reducible refine gate_dst (N := 4) rfl ?_); (try (refine gate_guard (by rfl) ?_; dsimp only)); refine box_event ?hg (N := 4) ?hd (cs := #[.int .i64 0, .int .i64 0, .int .i64 0, .int .i64 0]) (t := 37) ?hr ?_; (case hd => rfl); (case hg => rfl); (case hr => first | (go_simp; done) | (go_simp; rfl)); intro E0 hg w14 hbox hb; have n0_ := Aside0.mk (Kd.R_below (Kd.R_elderB (by exact zro HO383 E2 (by decide)) E0 (Nat.le_of_eq hg.symm)) hb); have n1_ := Aside0.mk (blk_below (g := E8) (o := .cells #[.int .i64 2, .int .i64 1, .slice Ao9 y381.length co9] 24 (0, 0)) (by exact zp E2 rfl) hb); have n2_ := Aside0.mk (below_step (by exact zbo HB J4) hb); have n3_ := Aside0.mk (hbox); have n4_ := Aside0.mk ((by rw [hg]; exact (below_size (by exact zbo HB J4)) : w.heap.size ≤ E0)); have n5_ := Aside0.mk ((by rw [hg]; exact (below_size (by exact zbo HB J4)) : w.heap.size ≤ E0)); have n6_ := Aside0.mk ((by rw [hg]; exact Nat.ne_of_lt (blk_lt (zf E4 Y1)) : E9 ≠ E0)); have n7_ := Aside0.mk ((by rw [hg]; exact Nat.ne_of_gt (blk_lt (zf E4 Y1)) : E0 ≠ E9)); have n8_ := Aside0.mk ((by rw [hg]; exact Nat.ne_of_lt (blk_lt (zf E3 Y2)) : E7 ≠ E0)); have n9_ := Aside0.mk ((by rw [hg]; exact Nat.ne_of_gt (blk_lt (zf E3 Y2)) : E0 ≠ E7)); have n10_ := Aside0.mk ((by rw [hg]; exact Nat.ne_of_lt (blk_lt (g := E8) (o := .cells #[.int .i64 2, .int .i64 1, .slice Ao9 y381.length co9] 24 (0, 0)) (by exact zp E2 rfl)) : E8 ≠ E0)); have n11_ := Aside0.mk ((by rw [hg]; exact Nat.ne_of_gt (blk_lt (g := E8) (o := .cells #[.int .i64 2, .int .i64 1, .slice Ao9 y381.length co9] 24 (0, 0)) (by exact zp E2 rfl)) : E0 ≠ E8)); replace E4 := zfk E4 Y1 hb; replace E3 := zfk E3 Y2 hb; clear HO383; clear E2; clear HB; have HO383 := n0_; have E2 := n1_; have HB := n2_; have E1 := n3_; have E1A := n4_; have Z7 := n5_; have Y3 := n6_; have E0w := n7_; have Y4 := n8_; have E0x := n9_; have V5 := n10_; have J5 := n11_; clear n0_ n1_ n2_ n3_ n4_ n5_ n6_ n7_ n8_ n9_ n10_ n11_; clear hb hbox hg; have E1B := E0w.out; have E1C := Y3.out; have E1D := E0x.out; have E1E := Y4.out; have E1F := J5.out; have E1G := V5.out; obtain ⟨E1H, E1I, E1J, E1K, E1L, E1M, E1N, E1O⟩ := zq4 E1))
 (try simp only [Act.put, sA, sB, sC])
 go_cut [36] (fun v36 wc => ∃ (kq : Nat) (x36_0 : Bool), v36 = .bool x36_0 ∧ Aside0 (imageeditorlaw14_awake.j0 kq x36_0 65535 0 0 65535 0 0 0 65535 2 1 y381 32768 0 0 65535 = some r) ∧ Aside0 (kq ≤ k) ∧ Aside0 (Kd.R k37 37 wc w.heap.size (fun k_ => k_ ≠ E9 ∧ k_ ≠ E7 ∧ k_ ≠ E0) (.slice Ao9 y381.length co9) y381) ∧ Aside0 (wc.heap[E9]? = some (.cells #[.int .i64 65535, .int .i64 0, .int .i64 0, .int .i64 65535] 37 (0, 0))) ∧ Aside0 (wc.heap[E7]? = some (.cells #[.int .i64 0, .int .i64 0, .int .i64 0, .int .i64 65535] 37 (0, 0))) ∧ Aside0 (wc.heap[E8]? = some (.cells #[.int .i64 2, .int .i64 1, (.slice Ao9 y381.length co9)] 24 (0, 0))) ∧ Aside0 (wc.heap[E0]? = some (.cells #[.int .i64 32768, .int .i64 0, .int .i64 0, .int .i64 65535] 37 (0, 0))) ∧ Aside0 (Below w.heap.size w wc))
 case first =>
  have H := HC1.out
  clear HC1
  replace H := Option.bind_eq_some_iff.mp H
  obtain ⟨⟨t386, t387, t388, t389⟩, A190, H⟩ := H
  try dsimp only at H
  have A19 := Aside0.mk A190
  clear A190
  by_cases c20 : (!(t386 == 32768) || (!(t387 == 0) || (!(t388 == 0) || (!(t389 == 65535))))) = true
  ·rw [if_pos c20] at H
   have Y5 : (!(t386 == 32768) || (!(t387 == 0) || (!(t388 == 0) || (!(t389 == 65535))))) = true := c20
   clear c20
   (first | rw [Y5] | (simp only [i64_w, i32_w]; rw [Y5]) | skip)
   have H' := Aside0.mk H
   clear H
   try go_wp2
   have n0_ : Aside0 (Kd.R k37 37 ((((w14.setCell ⟨E0, 0, none⟩ (.int .i64 32768)).setCell ⟨E0, 1, none⟩ (.int .i64 0)).setCell ⟨E0, 2, none⟩ (.int .i64 0)).setCell ⟨E0, 3, none⟩ (.int .i64 65535)) w.heap.size (fun k_ => k_ ≠ E9 ∧ k_ ≠ E7 ∧ k_ ≠ E0) (.slice Ao9 y381.length co9) y381) := ⟨by (with_reducible repeat (first | apply Kd.R_alloc | apply Kd.R_drewN | apply Kd.R_drew)); exact Kd.R_mono (Kd.R_far (p := ⟨E0, 3, none⟩) (Kd.R_far (p := ⟨E0, 2, none⟩) (Kd.R_far (p := ⟨E0, 1, none⟩) (Kd.R_far (p := ⟨E0, 0, none⟩) (Kd.R_mono HO383.out (fun k_ hk => (⟨hk, hk.2⟩ : _ ∧ k_ ≠ E0))) (fun _ hk => hk.2) (.int .i64 32768)) (fun _ hk => hk.2) (.int .i64 0)) (fun _ hk => hk.2) (.int .i64 0)) (fun _ hk => hk.2) (.int .i64 65535)) (fun _ hk => ⟨hk.1.1.1.2, ⟨hk.1.1.2, hk.1.2⟩⟩)⟩
   have n1_ : Aside0 (((((w14.setCell ⟨E0, 0, none⟩ (.int .i64 32768)).setCell ⟨E0, 1, none⟩ (.int .i64 0)).setCell ⟨E0, 2, none⟩ (.int .i64 0)).setCell ⟨E0, 3, none⟩ (.int .i64 65535)).heap[E9]? = some (.cells #[.int .i64 65535, .int .i64 0, .int .i64 0, .int .i64 65535] 37 (0, 0))) := ⟨by exact zf E4 Y3⟩
   have n2_ : Aside0 (((((w14.setCell ⟨E0, 0, none⟩ (.int .i64 32768)).setCell ⟨E0, 1, none⟩ (.int .i64 0)).setCell ⟨E0, 2, none⟩ (.int .i64 0)).setCell ⟨E0, 3, none⟩ (.int .i64 65535)).heap[E7]? = some (.cells #[.int .i64 0, .int .i64 0, .int .i64 0, .int .i64 65535] 37 (0, 0))) := ⟨by exact zf E3 Y4⟩
   have n3_ : Aside0 (((((w14.setCell ⟨E0, 0, none⟩ (.int .i64 32768)).setCell ⟨E0, 1, none⟩ (.int .i64 0)).setCell ⟨E0, 2, none⟩ (.int .i64 0)).setCell ⟨E0, 3, none⟩ (.int .i64 65535)).heap[E8]? = some (.cells #[.int .i64 2, .int .i64 1, .slice Ao9 y381.length co9] 24 (0, 0))) := ⟨by exact zf E2 V5⟩
   have n4_ : Aside0 (((((w14.setCell ⟨E0, 0, none⟩ (.int .i64 32768)).setCell ⟨E0, 1, none⟩ (.int .i64 0)).setCell ⟨E0, 2, none⟩ (.int .i64 0)).setCell ⟨E0, 3, none⟩ (.int .i64 65535)).heap[E0]? = some (.cells #[.int .i64 32768, .int .i64 0, .int .i64 0, .int .i64 65535] 37 (0, 0))) := ⟨by exact zp E1 rfl⟩
   have n5_ : Aside0 (Below w.heap.size w ((((w14.setCell ⟨E0, 0, none⟩ (.int .i64 32768)).setCell ⟨E0, 1, none⟩ (.int .i64 0)).setCell ⟨E0, 2, none⟩ (.int .i64 0)).setCell ⟨E0, 3, none⟩ (.int .i64 65535))) := ⟨by exact zbo HB Z7⟩
   (try clear HO383)
   (try clear E4)
   (try clear E3)
   (try clear E2)
   (try clear E1)
   (try clear HB)
   generalize ((((w14.setCell ⟨E0, 0, none⟩ (.int .i64 32768)).setCell ⟨E0, 1, none⟩ (.int .i64 0)).setCell ⟨E0, 2, none⟩ (.int .i64 0)).setCell ⟨E0, 3, none⟩ (.int .i64 65535)) = w21 at n0_ n1_ n2_ n3_ n4_ n5_ ⊢
   have HO383 := n0_
   have E4 := n1_
   have E3 := n2_
   have E2 := n3_
   have E1 := n4_
   have HB := n5_
   clear n0_ n1_ n2_ n3_ n4_ n5_
   replace HO383 := zrd HO383
   replace E4 := zkd E4
   replace E3 := zkd E3
   replace E2 := zkd E2
   replace E1 := zkd E1
   replace HB := zbd HB
   refine start_ (n := 22) (S := fun w' => w'.cell? ⟨E8, 0, none⟩ = some (.int .i64 2) ∧ w'.cell? ⟨E8, 1, none⟩ = some (.int .i64 1) ∧ w'.cell? ⟨E8, 2, none⟩ = some (.slice Ao9 y381.length co9) ∧ w'.cell? ⟨E0, 0, none⟩ = some (.int .i64 32768) ∧ w'.cell? ⟨E0, 1, none⟩ = some (.int .i64 0) ∧ w'.cell? ⟨E0, 2, none⟩ = some (.int .i64 0) ∧ w'.cell? ⟨E0, 3, none⟩ = some (.int .i64 65535)) (ds := []) (bs 22 0) (by kernel_rfl) rfl rfl ⟨(blk_cell E2.out 0).trans rfl, (blk_cell E2.out 1).trans rfl, (blk_cell E2.out 2).trans rfl, (blk_cell E1.out 0).trans rfl, (blk_cell E1.out 1).trans rfl, (blk_cell E1.out 2).trans rfl, (blk_cell E1.out 3).trans rfl⟩ (fun hHeld => ?_); refine with_tabW imageeditorlaw14_awake.tab4 imageeditorlaw14_awake.bits4 (fun HT_ HW_ => ?_)
   generalize w21.drew = w22 at HO383 E4 E3 E2 E1 HB HO383 hHeld ⊢
   refine take_ (i := 0) (N := some 15) (v := ?_) (a' := ?_) (bs 22 1) rfl rfl (take_ofW HT_.out HW_.out (by kernel_rfl)) (fun _ _ _ h => h) (Or.inl ⟨by rfl, ?_⟩) hHeld ?_ ?_
   rotate_left
   ·rintro w' ⟨s0, s1, s2, s3, s4, s5, s6⟩
    go_simp
    with_reducible rfl
   rotate_left
   ·simp only [Act.put, sA, sB, sC, i64_w, i32_w]
    rfl
   refine take_ (i := 2) (N := some 17) (v := ?_) (a' := ?_) (bs 22 5) rfl rfl (take_ofW HT_.out HW_.out (by kernel_rfl)) (fun _ _ _ h => h) (Or.inl ⟨by rfl, ?_⟩) hHeld ?_ ?_
   rotate_left
   ·rintro w' ⟨s0, s1, s2, s3, s4, s5, s6⟩
    go_simp
    with_reducible rfl
   rotate_left
   ·simp only [Act.put, sA, sB, sC, i64_w, i32_w]
    rfl
   refine one_ (i := 1) (N := some 16) (bs 22 7) rfl rfl (one_of HT_.out (by kernel_rfl)) (by decide) (fun K hK => ?_)
   refine goes_ Try.func17 (by kernel_rfl) rfl #[.agg #[.int .i64 2, .int .i64 1, .slice Ao9 y381.length co9], .int .i64 1, .int .i64 65536, .int .i64 32768] (by rfl) rfl rfl (by (try simp only [List.map_toArray, List.map_cons, List.map_nil]); first | done | rfl | (simp only [List.length_drop, List.length_take]; rfl)) ?_
   with_reducible refine (sample_At.calls k 2 1 _ _ y381 1 65536 32768 t386 t387 t388 t389 _ ?side1 ?side2 A19.out).mono ?_
   (case side1 => repeat (first | exact (Kd.R_reads' HO383.out).2.2 | (with_reducible refine Kd.C_alloc ?_ _) | (with_reducible refine Kd.C_drewN ?_ _) | (with_reducible refine Kd.C_drew ?_)))
   (case side2 => exact (Kd.R_reads' HO383.out).2.1)
   rintro e w23 ⟨rfl, hb⟩
   refine ⟨_, rfl, ?_⟩
   replace HO383 := zr HO383 hb
   replace E4 := zk E4 hb
   replace E3 := zk E3 hb
   replace E2 := zk E2 hb
   replace E1 := zk E1 hb
   replace HB := zb HB hb
   (try clear hb)
   (try clear hb2)
   (try clear hk)
   (try clear hi)
   refine hK.out _ _ ⟨(blk_cell E2.out 0).trans rfl, (blk_cell E2.out 1).trans rfl, (blk_cell E2.out 2).trans rfl, (blk_cell E1.out 0).trans rfl, (blk_cell E1.out 1).trans rfl, (blk_cell E1.out 2).trans rfl, (blk_cell E1.out 3).trans rfl⟩ (fun hHeld => ?_)
   clear hK K
   refine norm_ (a' := ?_) ?_ ?_
   rotate_left
   ·show Act.put _ (some 16) _ = _
    simp only [Act.put, sA, sB, sC, i64_w, i32_w]
    rfl
   refine pure_ (i := 3) (N := some 18) (v := ?_) (a' := ?_) (bs 22 15) rfl rfl (any_of HT_.out (by kernel_rfl)) (fun _ _ _ h => h) (Or.inl ⟨by rfl, ?_⟩) ?_ ?_
   rotate_left
   ·intro w'
    go_simp
    with_reducible rfl
   rotate_left
   ·simp only [Act.put, sA, sB, sC, i64_w, i32_w]
    rfl
   refine pure_ (i := 4) (N := some 19) (v := ?_) (a' := ?_) (bs 22 31) rfl rfl (any_of HT_.out (by kernel_rfl)) (fun _ _ _ h => h) (Or.inl ⟨by rfl, ?_⟩) ?_ ?_
   rotate_left
   ·intro w'
    go_simp
    with_reducible rfl
   rotate_left
   ·simp only [Act.put, sA, sB, sC, i64_w, i32_w]
    rfl
   refine pure_ (i := 5) (N := some 20) (v := undef) (a' := ?_) (bs 22 63) rfl rfl (any_of HT_.out (by kernel_rfl)) (fun _ _ _ h => h) (Or.inr ⟨by rfl, rfl⟩) ?_ ?_
   rotate_left
   ·simp only [Act.put, sA, sB, sC, i64_w, i32_w]
    rfl
   refine pure_ (i := 6) (N := some 21) (v := undef) (a' := ?_) (bs 22 127) rfl rfl (any_of HT_.out (by kernel_rfl)) (fun _ _ _ h => h) (Or.inr ⟨by rfl, rfl⟩) ?_ ?_
   rotate_left
   ·simp only [Act.put, sA, sB, sC, i64_w, i32_w]
    rfl
   refine pure_ (i := 7) (N := some 22) (v := undef) (a' := ?_) (bs 22 255) rfl rfl (any_of HT_.out (by kernel_rfl)) (fun _ _ _ h => h) (Or.inr ⟨by rfl, rfl⟩) ?_ ?_
   rotate_left
   ·simp only [Act.put, sA, sB, sC, i64_w, i32_w]
    rfl
   refine pure_ (i := 8) (N := some 23) (v := undef) (a' := ?_) (bs 22 511) rfl rfl (any_of HT_.out (by kernel_rfl)) (fun _ _ _ h => h) (Or.inr ⟨by rfl, rfl⟩) ?_ ?_
   rotate_left
   ·simp only [Act.put, sA, sB, sC, i64_w, i32_w]
    rfl
   refine pure_ (i := 9) (N := some 24) (v := ?_) (a' := ?_) (bs 22 1023) rfl rfl (any_of HT_.out (by kernel_rfl)) (fun _ _ _ h => h) (Or.inl ⟨by rfl, ?_⟩) ?_ ?_
   rotate_left
   ·intro w'
    go_simp
    with_reducible rfl
   rotate_left
   ·simp only [Act.put, sA, sB, sC, i64_w, i32_w]
    rfl
   refine pure_ (i := 10) (N := some 25) (v := ?_) (a' := ?_) (bs 22 2047) rfl rfl (any_of HT_.out (by kernel_rfl)) (fun _ _ _ h => h) (Or.inl ⟨by rfl, ?_⟩) ?_ ?_
   rotate_left
   ·intro w'
    go_simp
    with_reducible rfl
   rotate_left
   ·simp only [Act.put, sA, sB, sC, i64_w, i32_w]
    rfl
   refine pure_ (i := 11) (N := some 26) (v := undef) (a' := ?_) (bs 22 4095) rfl rfl (any_of HT_.out (by kernel_rfl)) (fun _ _ _ h => h) (Or.inr ⟨by rfl, rfl⟩) ?_ ?_
   rotate_left
   ·simp only [Act.put, sA, sB, sC, i64_w, i32_w]
    rfl
   refine pure_ (i := 12) (N := some 27) (v := undef) (a' := ?_) (bs 22 8191) rfl rfl (any_of HT_.out (by kernel_rfl)) (fun _ _ _ h => h) (Or.inr ⟨by rfl, rfl⟩) ?_ ?_
   rotate_left
   ·simp only [Act.put, sA, sB, sC, i64_w, i32_w]
    rfl
   refine pure_ (i := 13) (N := some 28) (v := undef) (a' := ?_) (bs 22 16383) rfl rfl (any_of HT_.out (by kernel_rfl)) (fun _ _ _ h => h) (Or.inr ⟨by rfl, rfl⟩) ?_ ?_
   rotate_left
   ·simp only [Act.put, sA, sB, sC, i64_w, i32_w]
    rfl
   refine pure_ (i := 14) (N := some 29) (v := undef) (a' := ?_) (bs 22 32767) rfl rfl (any_of HT_.out (by kernel_rfl)) (fun _ _ _ h => h) (Or.inr ⟨by rfl, rfl⟩) ?_ ?_
   rotate_left
   ·simp only [Act.put, sA, sB, sC, i64_w, i32_w]
    rfl
   refine pure_ (i := 15) (N := some 30) (v := ?_) (a' := ?_) (bs 22 65535) rfl rfl (any_of HT_.out (by kernel_rfl)) (fun _ _ _ h => h) (Or.inl ⟨by rfl, ?_⟩) ?_ ?_
   rotate_left
   ·intro w'
    go_simp
    with_reducible rfl
   rotate_left
   ·simp only [Act.put, sA, sB, sC, i64_w, i32_w]
    rfl
   refine pure_ (i := 16) (N := some 31) (v := ?_) (a' := ?_) (bs 22 131071) rfl rfl (any_of HT_.out (by kernel_rfl)) (fun _ _ _ h => h) (Or.inl ⟨by rfl, ?_⟩) ?_ ?_
   rotate_left
   ·intro w'
    go_simp
    with_reducible rfl
   rotate_left
   ·simp only [Act.put, sA, sB, sC, i64_w, i32_w]
    rfl
   refine pure_ (i := 17) (N := some 32) (v := undef) (a' := ?_) (bs 22 262143) rfl rfl (any_of HT_.out (by kernel_rfl)) (fun _ _ _ h => h) (Or.inr ⟨by rfl, rfl⟩) ?_ ?_
   rotate_left
   ·simp only [Act.put, sA, sB, sC, i64_w, i32_w]
    rfl
   refine pure_ (i := 18) (N := some 33) (v := undef) (a' := ?_) (bs 22 524287) rfl rfl (any_of HT_.out (by kernel_rfl)) (fun _ _ _ h => h) (Or.inr ⟨by rfl, rfl⟩) ?_ ?_
   rotate_left
   ·simp only [Act.put, sA, sB, sC, i64_w, i32_w]
    rfl
   refine pure_ (i := 19) (N := some 34) (v := undef) (a' := ?_) (bs 22 1048575) rfl rfl (any_of HT_.out (by kernel_rfl)) (fun _ _ _ h => h) (Or.inr ⟨by rfl, rfl⟩) ?_ ?_
   rotate_left
   ·simp only [Act.put, sA, sB, sC, i64_w, i32_w]
    rfl
   refine pure_ (i := 20) (N := some 35) (v := undef) (a' := ?_) (bs 22 2097151) rfl rfl (any_of HT_.out (by kernel_rfl)) (fun _ _ _ h => h) (Or.inr ⟨by rfl, rfl⟩) ?_ ?_
   rotate_left
   ·simp only [Act.put, sA, sB, sC, i64_w, i32_w]
    rfl
   refine pure_ (i := 21) (N := some 36) (v := ?_) (a' := ?_) (bs 22 4194303) rfl rfl (any_of HT_.out (by kernel_rfl)) (fun _ _ _ h => h) (Or.inl ⟨by rfl, ?_⟩) ?_ ?_
   rotate_left
   ·intro w'
    go_simp
    with_reducible rfl
   rotate_left
   ·simp only [Act.put, sA, sB, sC, i64_w, i32_w]
    rfl
   refine done_ (done_of HT_.out (by kernel_rfl)) ?_
   try go_wp2
   go_meet
   case rel => exact ⟨_, (true), (by first | rfl | (simp; done) | (simp [*]; done)), H', ⟨by first | omega | exact Nat.le_refl _⟩, ⟨by exact zr0 HO383⟩, ⟨by exact zk0 E4⟩, ⟨by exact zk0 E3⟩, ⟨by exact zk0 E2⟩, ⟨by exact zk0 E1⟩, ⟨by exact zb0 HB⟩⟩
  rw [if_neg c20] at H
  have Y5 : (!(t386 == 32768) || (!(t387 == 0) || (!(t388 == 0) || (!(t389 == 65535))))) = false := by simpa using c20
  clear c20
  (first | rw [Y5] | (simp only [i64_w, i32_w]; rw [Y5]) | skip)
  replace H := Option.bind_eq_some_iff.mp H
  obtain ⟨⟨t390, t391, t392, t393⟩, A240, H⟩ := H
  try dsimp only at H
  have A24 := Aside0.mk A240
  clear A240
  by_cases c25 : (!(t390 == 65535) || (!(t391 == 0) || (!(t392 == 0) || (!(t393 == 32768))))) = true
  ·rw [if_pos c25] at H
   have Z8 : (!(t390 == 65535) || (!(t391 == 0) || (!(t392 == 0) || (!(t393 == 32768))))) = true := c25
   clear c25
   have H' := Aside0.mk H
   clear H
   try go_wp2
   have n0_ : Aside0 (Kd.R k37 37 ((((w14.setCell ⟨E0, 0, none⟩ (.int .i64 32768)).setCell ⟨E0, 1, none⟩ (.int .i64 0)).setCell ⟨E0, 2, none⟩ (.int .i64 0)).setCell ⟨E0, 3, none⟩ (.int .i64 65535)) w.heap.size (fun k_ => k_ ≠ E9 ∧ k_ ≠ E7 ∧ k_ ≠ E0) (.slice Ao9 y381.length co9) y381) := ⟨by (with_reducible repeat (first | apply Kd.R_alloc | apply Kd.R_drewN | apply Kd.R_drew)); exact Kd.R_mono (Kd.R_far (p := ⟨E0, 3, none⟩) (Kd.R_far (p := ⟨E0, 2, none⟩) (Kd.R_far (p := ⟨E0, 1, none⟩) (Kd.R_far (p := ⟨E0, 0, none⟩) (Kd.R_mono HO383.out (fun k_ hk => (⟨hk, hk.2⟩ : _ ∧ k_ ≠ E0))) (fun _ hk => hk.2) (.int .i64 32768)) (fun _ hk => hk.2) (.int .i64 0)) (fun _ hk => hk.2) (.int .i64 0)) (fun _ hk => hk.2) (.int .i64 65535)) (fun _ hk => ⟨hk.1.1.1.2, ⟨hk.1.1.2, hk.1.2⟩⟩)⟩
   have n1_ : Aside0 (((((w14.setCell ⟨E0, 0, none⟩ (.int .i64 32768)).setCell ⟨E0, 1, none⟩ (.int .i64 0)).setCell ⟨E0, 2, none⟩ (.int .i64 0)).setCell ⟨E0, 3, none⟩ (.int .i64 65535)).heap[E9]? = some (.cells #[.int .i64 65535, .int .i64 0, .int .i64 0, .int .i64 65535] 37 (0, 0))) := ⟨by exact zf E4 Y3⟩
   have n2_ : Aside0 (((((w14.setCell ⟨E0, 0, none⟩ (.int .i64 32768)).setCell ⟨E0, 1, none⟩ (.int .i64 0)).setCell ⟨E0, 2, none⟩ (.int .i64 0)).setCell ⟨E0, 3, none⟩ (.int .i64 65535)).heap[E7]? = some (.cells #[.int .i64 0, .int .i64 0, .int .i64 0, .int .i64 65535] 37 (0, 0))) := ⟨by exact zf E3 Y4⟩
   have n3_ : Aside0 (((((w14.setCell ⟨E0, 0, none⟩ (.int .i64 32768)).setCell ⟨E0, 1, none⟩ (.int .i64 0)).setCell ⟨E0, 2, none⟩ (.int .i64 0)).setCell ⟨E0, 3, none⟩ (.int .i64 65535)).heap[E8]? = some (.cells #[.int .i64 2, .int .i64 1, .slice Ao9 y381.length co9] 24 (0, 0))) := ⟨by exact zf E2 V5⟩
   have n4_ : Aside0 (((((w14.setCell ⟨E0, 0, none⟩ (.int .i64 32768)).setCell ⟨E0, 1, none⟩ (.int .i64 0)).setCell ⟨E0, 2, none⟩ (.int .i64 0)).setCell ⟨E0, 3, none⟩ (.int .i64 65535)).heap[E0]? = some (.cells #[.int .i64 32768, .int .i64 0, .int .i64 0, .int .i64 65535] 37 (0, 0))) := ⟨by exact zp E1 rfl⟩
   have n5_ : Aside0 (Below w.heap.size w ((((w14.setCell ⟨E0, 0, none⟩ (.int .i64 32768)).setCell ⟨E0, 1, none⟩ (.int .i64 0)).setCell ⟨E0, 2, none⟩ (.int .i64 0)).setCell ⟨E0, 3, none⟩ (.int .i64 65535))) := ⟨by exact zbo HB Z7⟩
   (try clear HO383)
   (try clear E4)
   (try clear E3)
   (try clear E2)
   (try clear E1)
   (try clear HB)
   generalize ((((w14.setCell ⟨E0, 0, none⟩ (.int .i64 32768)).setCell ⟨E0, 1, none⟩ (.int .i64 0)).setCell ⟨E0, 2, none⟩ (.int .i64 0)).setCell ⟨E0, 3, none⟩ (.int .i64 65535)) = w26 at n0_ n1_ n2_ n3_ n4_ n5_ ⊢
   have HO383 := n0_
   have E4 := n1_
   have E3 := n2_
   have E2 := n3_
   have E1 := n4_
   have HB := n5_
   clear n0_ n1_ n2_ n3_ n4_ n5_
   replace HO383 := zrd HO383
   replace E4 := zkd E4
   replace E3 := zkd E3
   replace E2 := zkd E2
   replace E1 := zkd E1
   replace HB := zbd HB
   refine start_ (n := 22) (S := fun w' => w'.cell? ⟨E8, 0, none⟩ = some (.int .i64 2) ∧ w'.cell? ⟨E8, 1, none⟩ = some (.int .i64 1) ∧ w'.cell? ⟨E8, 2, none⟩ = some (.slice Ao9 y381.length co9) ∧ w'.cell? ⟨E0, 0, none⟩ = some (.int .i64 32768) ∧ w'.cell? ⟨E0, 1, none⟩ = some (.int .i64 0) ∧ w'.cell? ⟨E0, 2, none⟩ = some (.int .i64 0) ∧ w'.cell? ⟨E0, 3, none⟩ = some (.int .i64 65535)) (ds := []) (bs 22 0) (by kernel_rfl) rfl rfl ⟨(blk_cell E2.out 0).trans rfl, (blk_cell E2.out 1).trans rfl, (blk_cell E2.out 2).trans rfl, (blk_cell E1.out 0).trans rfl, (blk_cell E1.out 1).trans rfl, (blk_cell E1.out 2).trans rfl, (blk_cell E1.out 3).trans rfl⟩ (fun hHeld => ?_); refine with_tabW imageeditorlaw14_awake.tab4 imageeditorlaw14_awake.bits4 (fun HT_ HW_ => ?_)
   generalize w26.drew = w27 at HO383 E4 E3 E2 E1 HB HO383 hHeld ⊢
   refine take_ (i := 0) (N := some 15) (v := ?_) (a' := ?_) (bs 22 1) rfl rfl (take_ofW HT_.out HW_.out (by kernel_rfl)) (fun _ _ _ h => h) (Or.inl ⟨by rfl, ?_⟩) hHeld ?_ ?_
   rotate_left
   ·rintro w' ⟨s0, s1, s2, s3, s4, s5, s6⟩
    go_simp
    with_reducible rfl
   rotate_left
   ·simp only [Act.put, sA, sB, sC, i64_w, i32_w]
    rfl
   refine take_ (i := 2) (N := some 17) (v := ?_) (a' := ?_) (bs 22 5) rfl rfl (take_ofW HT_.out HW_.out (by kernel_rfl)) (fun _ _ _ h => h) (Or.inl ⟨by rfl, ?_⟩) hHeld ?_ ?_
   rotate_left
   ·rintro w' ⟨s0, s1, s2, s3, s4, s5, s6⟩
    go_simp
    with_reducible rfl
   rotate_left
   ·simp only [Act.put, sA, sB, sC, i64_w, i32_w]
    rfl
   refine one_ (i := 1) (N := some 16) (bs 22 7) rfl rfl (one_of HT_.out (by kernel_rfl)) (by decide) (fun K hK => ?_)
   refine goes_ Try.func17 (by kernel_rfl) rfl #[.agg #[.int .i64 2, .int .i64 1, .slice Ao9 y381.length co9], .int .i64 1, .int .i64 65536, .int .i64 32768] (by rfl) rfl rfl (by (try simp only [List.map_toArray, List.map_cons, List.map_nil]); first | done | rfl | (simp only [List.length_drop, List.length_take]; rfl)) ?_
   with_reducible refine (sample_At.calls k 2 1 _ _ y381 1 65536 32768 t386 t387 t388 t389 _ ?side1 ?side2 A19.out).mono ?_
   (case side1 => repeat (first | exact (Kd.R_reads' HO383.out).2.2 | (with_reducible refine Kd.C_alloc ?_ _) | (with_reducible refine Kd.C_drewN ?_ _) | (with_reducible refine Kd.C_drew ?_)))
   (case side2 => exact (Kd.R_reads' HO383.out).2.1)
   rintro e w28 ⟨rfl, hb⟩
   refine ⟨_, rfl, ?_⟩
   replace HO383 := zr HO383 hb
   replace E4 := zk E4 hb
   replace E3 := zk E3 hb
   replace E2 := zk E2 hb
   replace E1 := zk E1 hb
   replace HB := zb HB hb
   (try clear hb)
   (try clear hb2)
   (try clear hk)
   (try clear hi)
   refine hK.out _ _ ⟨(blk_cell E2.out 0).trans rfl, (blk_cell E2.out 1).trans rfl, (blk_cell E2.out 2).trans rfl, (blk_cell E1.out 0).trans rfl, (blk_cell E1.out 1).trans rfl, (blk_cell E1.out 2).trans rfl, (blk_cell E1.out 3).trans rfl⟩ (fun hHeld => ?_)
   clear hK K
   refine norm_ (a' := ?_) ?_ ?_
   rotate_left
   ·show Act.put _ (some 16) _ = _
    simp only [Act.put, sA, sB, sC, i64_w, i32_w]
    rfl
   refine pure_ (i := 3) (N := some 18) (v := ?_) (a' := ?_) (bs 22 15) rfl rfl (any_of HT_.out (by kernel_rfl)) (fun _ _ _ h => h) (Or.inl ⟨by rfl, ?_⟩) ?_ ?_
   rotate_left
   ·intro w'
    go_simp
    with_reducible rfl
   rotate_left
   ·simp only [Act.put, sA, sB, sC, i64_w, i32_w]
    rfl
   refine pure_ (i := 4) (N := some 19) (v := ?_) (a' := ?_) (bs 22 31) rfl rfl (any_of HT_.out (by kernel_rfl)) (fun _ _ _ h => h) (Or.inl ⟨by rfl, ?_⟩) ?_ ?_
   rotate_left
   ·intro w'
    go_simp
    with_reducible rfl
   rotate_left
   ·simp only [Act.put, sA, sB, sC, i64_w, i32_w]
    rfl
   refine pure_ (i := 7) (N := some 22) (v := ?_) (a' := ?_) (bs 22 159) rfl rfl (any_of HT_.out (by kernel_rfl)) (fun _ _ _ h => h) (Or.inl ⟨by rfl, ?_⟩) ?_ ?_
   rotate_left
   ·intro w'
    go_simp
    with_reducible rfl
   rotate_left
   ·simp only [Act.put, sA, sB, sC, i64_w, i32_w]
    rfl
   refine take_ (i := 5) (N := some 20) (v := ?_) (a' := ?_) (bs 22 191) rfl rfl (take_ofW HT_.out HW_.out (by kernel_rfl)) (fun _ _ _ h => h) (Or.inl ⟨by rfl, ?_⟩) hHeld ?_ ?_
   rotate_left
   ·rintro w' ⟨s0, s1, s2, s3, s4, s5, s6⟩
    go_simp
    with_reducible rfl
   rotate_left
   ·simp only [Act.put, sA, sB, sC, i64_w, i32_w]
    rfl
   refine one_ (i := 6) (N := some 21) (bs 22 255) rfl rfl (one_of HT_.out (by kernel_rfl)) (by decide) (fun K hK => ?_)
   refine goes_ Try.func17 (by kernel_rfl) rfl #[.agg #[.int .i64 2, .int .i64 1, .slice Ao9 y381.length co9], .int .i64 1, .int .i64 0, .int .i64 32768] (by rfl) rfl rfl (by (try simp only [List.map_toArray, List.map_cons, List.map_nil]); first | done | rfl | (simp only [List.length_drop, List.length_take]; rfl)) ?_
   with_reducible refine (sample_At.calls k 2 1 _ _ y381 1 0 32768 t390 t391 t392 t393 _ ?side1 ?side2 A24.out).mono ?_
   (case side1 => repeat (first | exact (Kd.R_reads' HO383.out).2.2 | (with_reducible refine Kd.C_alloc ?_ _) | (with_reducible refine Kd.C_drewN ?_ _) | (with_reducible refine Kd.C_drew ?_)))
   (case side2 => exact (Kd.R_reads' HO383.out).2.1)
   rintro e w29 ⟨rfl, hb⟩
   refine ⟨_, rfl, ?_⟩
   replace HO383 := zr HO383 hb
   replace E4 := zk E4 hb
   replace E3 := zk E3 hb
   replace E2 := zk E2 hb
   replace E1 := zk E1 hb
   replace HB := zb HB hb
   (try clear hb)
   (try clear hb2)
   (try clear hk)
   (try clear hi)
   refine hK.out _ _ ⟨(blk_cell E2.out 0).trans rfl, (blk_cell E2.out 1).trans rfl, (blk_cell E2.out 2).trans rfl, (blk_cell E1.out 0).trans rfl, (blk_cell E1.out 1).trans rfl, (blk_cell E1.out 2).trans rfl, (blk_cell E1.out 3).trans rfl⟩ (fun hHeld => ?_)
   clear hK K
   refine norm_ (a' := ?_) ?_ ?_
   rotate_left
   ·show Act.put _ (some 21) _ = _
    simp only [Act.put, sA, sB, sC, i64_w, i32_w]
    rfl
   refine pure_ (i := 8) (N := some 23) (v := ?_) (a' := ?_) (bs 22 511) rfl rfl (any_of HT_.out (by kernel_rfl)) (fun _ _ _ h => h) (Or.inl ⟨by rfl, ?_⟩) ?_ ?_
   rotate_left
   ·intro w'
    go_simp
    with_reducible rfl
   rotate_left
   ·simp only [Act.put, sA, sB, sC, i64_w, i32_w]
    rfl
   refine pure_ (i := 9) (N := some 24) (v := ?_) (a' := ?_) (bs 22 1023) rfl rfl (any_of HT_.out (by kernel_rfl)) (fun _ _ _ h => h) (Or.inl ⟨by rfl, ?_⟩) ?_ ?_
   rotate_left
   ·intro w'
    go_simp
    with_reducible rfl
   rotate_left
   ·simp only [Act.put, sA, sB, sC, i64_w, i32_w]
    rfl
   refine pure_ (i := 10) (N := some 25) (v := ?_) (a' := ?_) (bs 22 2047) rfl rfl (any_of HT_.out (by kernel_rfl)) (fun _ _ _ h => h) (Or.inl ⟨by rfl, ?_⟩) ?_ ?_
   rotate_left
   ·intro w'
    go_simp
    with_reducible rfl
   rotate_left
   ·simp only [Act.put, sA, sB, sC, i64_w, i32_w]
    rfl
   refine pure_ (i := 11) (N := some 26) (v := undef) (a' := ?_) (bs 22 4095) rfl rfl (any_of HT_.out (by kernel_rfl)) (fun _ _ _ h => h) (Or.inr ⟨by rfl, rfl⟩) ?_ ?_
   rotate_left
   ·simp only [Act.put, sA, sB, sC, i64_w, i32_w]
    rfl
   refine pure_ (i := 12) (N := some 27) (v := undef) (a' := ?_) (bs 22 8191) rfl rfl (any_of HT_.out (by kernel_rfl)) (fun _ _ _ h => h) (Or.inr ⟨by rfl, rfl⟩) ?_ ?_
   rotate_left
   ·simp only [Act.put, sA, sB, sC, i64_w, i32_w]
    rfl
   refine pure_ (i := 13) (N := some 28) (v := undef) (a' := ?_) (bs 22 16383) rfl rfl (any_of HT_.out (by kernel_rfl)) (fun _ _ _ h => h) (Or.inr ⟨by rfl, rfl⟩) ?_ ?_
   rotate_left
   ·simp only [Act.put, sA, sB, sC, i64_w, i32_w]
    rfl
   refine pure_ (i := 14) (N := some 29) (v := undef) (a' := ?_) (bs 22 32767) rfl rfl (any_of HT_.out (by kernel_rfl)) (fun _ _ _ h => h) (Or.inr ⟨by rfl, rfl⟩) ?_ ?_
   rotate_left
   ·simp only [Act.put, sA, sB, sC, i64_w, i32_w]
    rfl
   refine pure_ (i := 15) (N := some 30) (v := ?_) (a' := ?_) (bs 22 65535) rfl rfl (any_of HT_.out (by kernel_rfl)) (fun _ _ _ h => h) (Or.inl ⟨by rfl, ?_⟩) ?_ ?_
   rotate_left
   ·intro w'
    go_simp
    with_reducible rfl
   rotate_left
   ·simp only [Act.put, sA, sB, sC, i64_w, i32_w]
    rfl
   refine pure_ (i := 16) (N := some 31) (v := ?_) (a' := ?_) (bs 22 131071) rfl rfl (any_of HT_.out (by kernel_rfl)) (fun _ _ _ h => h) (Or.inl ⟨by rfl, ?_⟩) ?_ ?_
   rotate_left
   ·intro w'
    go_simp
    with_reducible rfl
   rotate_left
   ·simp only [Act.put, sA, sB, sC, i64_w, i32_w]
    rfl
   refine pure_ (i := 17) (N := some 32) (v := undef) (a' := ?_) (bs 22 262143) rfl rfl (any_of HT_.out (by kernel_rfl)) (fun _ _ _ h => h) (Or.inr ⟨by rfl, rfl⟩) ?_ ?_
   rotate_left
   ·simp only [Act.put, sA, sB, sC, i64_w, i32_w]
    rfl
   refine pure_ (i := 18) (N := some 33) (v := undef) (a' := ?_) (bs 22 524287) rfl rfl (any_of HT_.out (by kernel_rfl)) (fun _ _ _ h => h) (Or.inr ⟨by rfl, rfl⟩) ?_ ?_
   rotate_left
   ·simp only [Act.put, sA, sB, sC, i64_w, i32_w]
    rfl
   refine pure_ (i := 19) (N := some 34) (v := undef) (a' := ?_) (bs 22 1048575) rfl rfl (any_of HT_.out (by kernel_rfl)) (fun _ _ _ h => h) (Or.inr ⟨by rfl, rfl⟩) ?_ ?_
   rotate_left
   ·simp only [Act.put, sA, sB, sC, i64_w, i32_w]
    rfl
   refine pure_ (i := 20) (N := some 35) (v := undef) (a' := ?_) (bs 22 2097151) rfl rfl (any_of HT_.out (by kernel_rfl)) (fun _ _ _ h => h) (Or.inr ⟨by rfl, rfl⟩) ?_ ?_
   rotate_left
   ·simp only [Act.put, sA, sB, sC, i64_w, i32_w]
    rfl
   refine pure_ (i := 21) (N := some 36) (v := ?_) (a' := ?_) (bs 22 4194303) rfl rfl (any_of HT_.out (by kernel_rfl)) (fun _ _ _ h => h) (Or.inl ⟨by rfl, ?_⟩) ?_ ?_
   rotate_left
   ·intro w'
    go_simp
    with_reducible rfl
   rotate_left
   ·simp only [Act.put, sA, sB, sC, i64_w, i32_w]
    rfl
   refine done_ (done_of HT_.out (by kernel_rfl)) ?_
   try go_wp2
   go_meet
   case rel => exact ⟨_, (true), (by first | rfl | (simp; done) | (simp [*]; done)), H', ⟨by first | omega | exact Nat.le_refl _⟩, ⟨by exact zr0 HO383⟩, ⟨by exact zk0 E4⟩, ⟨by exact zk0 E3⟩, ⟨by exact zk0 E2⟩, ⟨by exact zk0 E1⟩, ⟨by exact zb0 HB⟩⟩
  rw [if_neg c25] at H
  have Z8 : (!(t390 == 65535) || (!(t391 == 0) || (!(t392 == 0) || (!(t393 == 32768))))) = false := by simpa using c25
  clear c25
  replace H := Option.bind_eq_some_iff.mp H
  obtain ⟨⟨t394, t395, t396, t397⟩, A300, H⟩ := H
  try dsimp only at H
  have A30 := Aside0.mk A300
  clear A300
  by_cases c31 : (!(t394 == 0) || (!(t395 == 0) || (!(t396 == 0) || (!(t397 == 65535))))) = true
  ·rw [if_pos c31] at H
   have Z9 : (!(t394 == 0) || (!(t395 == 0) || (!(t396 == 0) || (!(t397 == 65535))))) = true := c31
   clear c31
   have H' := Aside0.mk H
   clear H
   try go_wp2
   have n0_ : Aside0 (Kd.R k37 37 ((((w14.setCell ⟨E0, 0, none⟩ (.int .i64 32768)).setCell ⟨E0, 1, none⟩ (.int .i64 0)).setCell ⟨E0, 2, none⟩ (.int .i64 0)).setCell ⟨E0, 3, none⟩ (.int .i64 65535)) w.heap.size (fun k_ => k_ ≠ E9 ∧ k_ ≠ E7 ∧ k_ ≠ E0) (.slice Ao9 y381.length co9) y381) := ⟨by (with_reducible repeat (first | apply Kd.R_alloc | apply Kd.R_drewN | apply Kd.R_drew)); exact Kd.R_mono (Kd.R_far (p := ⟨E0, 3, none⟩) (Kd.R_far (p := ⟨E0, 2, none⟩) (Kd.R_far (p := ⟨E0, 1, none⟩) (Kd.R_far (p := ⟨E0, 0, none⟩) (Kd.R_mono HO383.out (fun k_ hk => (⟨hk, hk.2⟩ : _ ∧ k_ ≠ E0))) (fun _ hk => hk.2) (.int .i64 32768)) (fun _ hk => hk.2) (.int .i64 0)) (fun _ hk => hk.2) (.int .i64 0)) (fun _ hk => hk.2) (.int .i64 65535)) (fun _ hk => ⟨hk.1.1.1.2, ⟨hk.1.1.2, hk.1.2⟩⟩)⟩
   have n1_ : Aside0 (((((w14.setCell ⟨E0, 0, none⟩ (.int .i64 32768)).setCell ⟨E0, 1, none⟩ (.int .i64 0)).setCell ⟨E0, 2, none⟩ (.int .i64 0)).setCell ⟨E0, 3, none⟩ (.int .i64 65535)).heap[E9]? = some (.cells #[.int .i64 65535, .int .i64 0, .int .i64 0, .int .i64 65535] 37 (0, 0))) := ⟨by exact zf E4 Y3⟩
   have n2_ : Aside0 (((((w14.setCell ⟨E0, 0, none⟩ (.int .i64 32768)).setCell ⟨E0, 1, none⟩ (.int .i64 0)).setCell ⟨E0, 2, none⟩ (.int .i64 0)).setCell ⟨E0, 3, none⟩ (.int .i64 65535)).heap[E7]? = some (.cells #[.int .i64 0, .int .i64 0, .int .i64 0, .int .i64 65535] 37 (0, 0))) := ⟨by exact zf E3 Y4⟩
   have n3_ : Aside0 (((((w14.setCell ⟨E0, 0, none⟩ (.int .i64 32768)).setCell ⟨E0, 1, none⟩ (.int .i64 0)).setCell ⟨E0, 2, none⟩ (.int .i64 0)).setCell ⟨E0, 3, none⟩ (.int .i64 65535)).heap[E8]? = some (.cells #[.int .i64 2, .int .i64 1, .slice Ao9 y381.length co9] 24 (0, 0))) := ⟨by exact zf E2 V5⟩
   have n4_ : Aside0 (((((w14.setCell ⟨E0, 0, none⟩ (.int .i64 32768)).setCell ⟨E0, 1, none⟩ (.int .i64 0)).setCell ⟨E0, 2, none⟩ (.int .i64 0)).setCell ⟨E0, 3, none⟩ (.int .i64 65535)).heap[E0]? = some (.cells #[.int .i64 32768, .int .i64 0, .int .i64 0, .int .i64 65535] 37 (0, 0))) := ⟨by exact zp E1 rfl⟩
   have n5_ : Aside0 (Below w.heap.size w ((((w14.setCell ⟨E0, 0, none⟩ (.int .i64 32768)).setCell ⟨E0, 1, none⟩ (.int .i64 0)).setCell ⟨E0, 2, none⟩ (.int .i64 0)).setCell ⟨E0, 3, none⟩ (.int .i64 65535))) := ⟨by exact zbo HB Z7⟩
   (try clear HO383)
   (try clear E4)
   (try clear E3)
   (try clear E2)
   (try clear E1)
   (try clear HB)
   generalize ((((w14.setCell ⟨E0, 0, none⟩ (.int .i64 32768)).setCell ⟨E0, 1, none⟩ (.int .i64 0)).setCell ⟨E0, 2, none⟩ (.int .i64 0)).setCell ⟨E0, 3, none⟩ (.int .i64 65535)) = w32 at n0_ n1_ n2_ n3_ n4_ n5_ ⊢
   have HO383 := n0_
   have E4 := n1_
   have E3 := n2_
   have E2 := n3_
   have E1 := n4_
   have HB := n5_
   clear n0_ n1_ n2_ n3_ n4_ n5_
   replace HO383 := zrd HO383
   replace E4 := zkd E4
   replace E3 := zkd E3
   replace E2 := zkd E2
   replace E1 := zkd E1
   replace HB := zbd HB
   refine start_ (n := 22) (S := fun w' => w'.cell? ⟨E8, 0, none⟩ = some (.int .i64 2) ∧ w'.cell? ⟨E8, 1, none⟩ = some (.int .i64 1) ∧ w'.cell? ⟨E8, 2, none⟩ = some (.slice Ao9 y381.length co9) ∧ w'.cell? ⟨E0, 0, none⟩ = some (.int .i64 32768) ∧ w'.cell? ⟨E0, 1, none⟩ = some (.int .i64 0) ∧ w'.cell? ⟨E0, 2, none⟩ = some (.int .i64 0) ∧ w'.cell? ⟨E0, 3, none⟩ = some (.int .i64 65535) ∧ w'.cell? ⟨E7, 0, none⟩ = some (.int .i64 0) ∧ w'.cell? ⟨E7, 1, none⟩ = some (.int .i64 0) ∧ w'.cell? ⟨E7, 2, none⟩ = some (.int .i64 0) ∧ w'.cell? ⟨E7, 3, none⟩ = some (.int .i64 65535)) (ds := []) (bs 22 0) (by kernel_rfl) rfl rfl ⟨(blk_cell E2.out 0).trans rfl, (blk_cell E2.out 1).trans rfl, (blk_cell E2.out 2).trans rfl, (blk_cell E1.out 0).trans rfl, (blk_cell E1.out 1).trans rfl, (blk_cell E1.out 2).trans rfl, (blk_cell E1.out 3).trans rfl, (blk_cell E3.out 0).trans rfl, (blk_cell E3.out 1).trans rfl, (blk_cell E3.out 2).trans rfl, (blk_cell E3.out 3).trans rfl⟩ (fun hHeld => ?_); refine with_tabW imageeditorlaw14_awake.tab4 imageeditorlaw14_awake.bits4 (fun HT_ HW_ => ?_)
   generalize w32.drew = w33 at HO383 E4 E3 E2 E1 HB HO383 hHeld ⊢
   refine take_ (i := 0) (N := some 15) (v := ?_) (a' := ?_) (bs 22 1) rfl rfl (take_ofW HT_.out HW_.out (by kernel_rfl)) (fun _ _ _ h => h) (Or.inl ⟨by rfl, ?_⟩) hHeld ?_ ?_
   rotate_left
   ·rintro w' ⟨s0, s1, s2, s3, s4, s5, s6, s7, s8, s9, s10⟩
    go_simp
    with_reducible rfl
   rotate_left
   ·simp only [Act.put, sA, sB, sC, i64_w, i32_w]
    rfl
   refine take_ (i := 2) (N := some 17) (v := ?_) (a' := ?_) (bs 22 5) rfl rfl (take_ofW HT_.out HW_.out (by kernel_rfl)) (fun _ _ _ h => h) (Or.inl ⟨by rfl, ?_⟩) hHeld ?_ ?_
   rotate_left
   ·rintro w' ⟨s0, s1, s2, s3, s4, s5, s6, s7, s8, s9, s10⟩
    go_simp
    with_reducible rfl
   rotate_left
   ·simp only [Act.put, sA, sB, sC, i64_w, i32_w]
    rfl
   refine one_ (i := 1) (N := some 16) (bs 22 7) rfl rfl (one_of HT_.out (by kernel_rfl)) (by decide) (fun K hK => ?_)
   refine goes_ Try.func17 (by kernel_rfl) rfl #[.agg #[.int .i64 2, .int .i64 1, .slice Ao9 y381.length co9], .int .i64 1, .int .i64 65536, .int .i64 32768] (by rfl) rfl rfl (by (try simp only [List.map_toArray, List.map_cons, List.map_nil]); first | done | rfl | (simp only [List.length_drop, List.length_take]; rfl)) ?_
   with_reducible refine (sample_At.calls k 2 1 _ _ y381 1 65536 32768 t386 t387 t388 t389 _ ?side1 ?side2 A19.out).mono ?_
   (case side1 => repeat (first | exact (Kd.R_reads' HO383.out).2.2 | (with_reducible refine Kd.C_alloc ?_ _) | (with_reducible refine Kd.C_drewN ?_ _) | (with_reducible refine Kd.C_drew ?_)))
   (case side2 => exact (Kd.R_reads' HO383.out).2.1)
   rintro e w34 ⟨rfl, hb⟩
   refine ⟨_, rfl, ?_⟩
   replace HO383 := zr HO383 hb
   replace E4 := zk E4 hb
   replace E3 := zk E3 hb
   replace E2 := zk E2 hb
   replace E1 := zk E1 hb
   replace HB := zb HB hb
   (try clear hb)
   (try clear hb2)
   (try clear hk)
   (try clear hi)
   refine hK.out _ _ ⟨(blk_cell E2.out 0).trans rfl, (blk_cell E2.out 1).trans rfl, (blk_cell E2.out 2).trans rfl, (blk_cell E1.out 0).trans rfl, (blk_cell E1.out 1).trans rfl, (blk_cell E1.out 2).trans rfl, (blk_cell E1.out 3).trans rfl, (blk_cell E3.out 0).trans rfl, (blk_cell E3.out 1).trans rfl, (blk_cell E3.out 2).trans rfl, (blk_cell E3.out 3).trans rfl⟩ (fun hHeld => ?_)
   clear hK K
   refine norm_ (a' := ?_) ?_ ?_
   rotate_left
   ·show Act.put _ (some 16) _ = _
    simp only [Act.put, sA, sB, sC, i64_w, i32_w]
    rfl
   refine pure_ (i := 3) (N := some 18) (v := ?_) (a' := ?_) (bs 22 15) rfl rfl (any_of HT_.out (by kernel_rfl)) (fun _ _ _ h => h) (Or.inl ⟨by rfl, ?_⟩) ?_ ?_
   rotate_left
   ·intro w'
    go_simp
    with_reducible rfl
   rotate_left
   ·simp only [Act.put, sA, sB, sC, i64_w, i32_w]
    rfl
   refine pure_ (i := 4) (N := some 19) (v := ?_) (a' := ?_) (bs 22 31) rfl rfl (any_of HT_.out (by kernel_rfl)) (fun _ _ _ h => h) (Or.inl ⟨by rfl, ?_⟩) ?_ ?_
   rotate_left
   ·intro w'
    go_simp
    with_reducible rfl
   rotate_left
   ·simp only [Act.put, sA, sB, sC, i64_w, i32_w]
    rfl
   refine pure_ (i := 7) (N := some 22) (v := ?_) (a' := ?_) (bs 22 159) rfl rfl (any_of HT_.out (by kernel_rfl)) (fun _ _ _ h => h) (Or.inl ⟨by rfl, ?_⟩) ?_ ?_
   rotate_left
   ·intro w'
    go_simp
    with_reducible rfl
   rotate_left
   ·simp only [Act.put, sA, sB, sC, i64_w, i32_w]
    rfl
   refine take_ (i := 5) (N := some 20) (v := ?_) (a' := ?_) (bs 22 191) rfl rfl (take_ofW HT_.out HW_.out (by kernel_rfl)) (fun _ _ _ h => h) (Or.inl ⟨by rfl, ?_⟩) hHeld ?_ ?_
   rotate_left
   ·rintro w' ⟨s0, s1, s2, s3, s4, s5, s6, s7, s8, s9, s10⟩
    go_simp
    with_reducible rfl
   rotate_left
   ·simp only [Act.put, sA, sB, sC, i64_w, i32_w]
    rfl
   refine one_ (i := 6) (N := some 21) (bs 22 255) rfl rfl (one_of HT_.out (by kernel_rfl)) (by decide) (fun K hK => ?_)
   refine goes_ Try.func17 (by kernel_rfl) rfl #[.agg #[.int .i64 2, .int .i64 1, .slice Ao9 y381.length co9], .int .i64 1, .int .i64 0, .int .i64 32768] (by rfl) rfl rfl (by (try simp only [List.map_toArray, List.map_cons, List.map_nil]); first | done | rfl | (simp only [List.length_drop, List.length_take]; rfl)) ?_
   with_reducible refine (sample_At.calls k 2 1 _ _ y381 1 0 32768 t390 t391 t392 t393 _ ?side1 ?side2 A24.out).mono ?_
   (case side1 => repeat (first | exact (Kd.R_reads' HO383.out).2.2 | (with_reducible refine Kd.C_alloc ?_ _) | (with_reducible refine Kd.C_drewN ?_ _) | (with_reducible refine Kd.C_drew ?_)))
   (case side2 => exact (Kd.R_reads' HO383.out).2.1)
   rintro e w35 ⟨rfl, hb⟩
   refine ⟨_, rfl, ?_⟩
   replace HO383 := zr HO383 hb
   replace E4 := zk E4 hb
   replace E3 := zk E3 hb
   replace E2 := zk E2 hb
   replace E1 := zk E1 hb
   replace HB := zb HB hb
   (try clear hb)
   (try clear hb2)
   (try clear hk)
   (try clear hi)
   refine hK.out _ _ ⟨(blk_cell E2.out 0).trans rfl, (blk_cell E2.out 1).trans rfl, (blk_cell E2.out 2).trans rfl, (blk_cell E1.out 0).trans rfl, (blk_cell E1.out 1).trans rfl, (blk_cell E1.out 2).trans rfl, (blk_cell E1.out 3).trans rfl, (blk_cell E3.out 0).trans rfl, (blk_cell E3.out 1).trans rfl, (blk_cell E3.out 2).trans rfl, (blk_cell E3.out 3).trans rfl⟩ (fun hHeld => ?_)
   clear hK K
   refine norm_ (a' := ?_) ?_ ?_
   rotate_left
   ·show Act.put _ (some 21) _ = _
    simp only [Act.put, sA, sB, sC, i64_w, i32_w]
    rfl
   refine pure_ (i := 8) (N := some 23) (v := ?_) (a' := ?_) (bs 22 511) rfl rfl (any_of HT_.out (by kernel_rfl)) (fun _ _ _ h => h) (Or.inl ⟨by rfl, ?_⟩) ?_ ?_
   rotate_left
   ·intro w'
    go_simp
    with_reducible rfl
   rotate_left
   ·simp only [Act.put, sA, sB, sC, i64_w, i32_w]
    rfl
   refine pure_ (i := 9) (N := some 24) (v := ?_) (a' := ?_) (bs 22 1023) rfl rfl (any_of HT_.out (by kernel_rfl)) (fun _ _ _ h => h) (Or.inl ⟨by rfl, ?_⟩) ?_ ?_
   rotate_left
   ·intro w'
    go_simp
    with_reducible rfl
   rotate_left
   ·simp only [Act.put, sA, sB, sC, i64_w, i32_w]
    rfl
   refine pure_ (i := 10) (N := some 25) (v := ?_) (a' := ?_) (bs 22 2047) rfl rfl (any_of HT_.out (by kernel_rfl)) (fun _ _ _ h => h) (Or.inl ⟨by rfl, ?_⟩) ?_ ?_
   rotate_left
   ·intro w'
    go_simp
    with_reducible rfl
   rotate_left
   ·simp only [Act.put, sA, sB, sC, i64_w, i32_w]
    rfl
   refine take_ (i := 11) (N := some 26) (v := ?_) (a' := ?_) (bs 22 4095) rfl rfl (take_ofW HT_.out HW_.out (by kernel_rfl)) (fun _ _ _ h => h) (Or.inl ⟨by rfl, ?_⟩) hHeld ?_ ?_
   rotate_left
   ·rintro w' ⟨s0, s1, s2, s3, s4, s5, s6, s7, s8, s9, s10⟩
    go_simp
    with_reducible rfl
   rotate_left
   ·simp only [Act.put, sA, sB, sC, i64_w, i32_w]
    rfl
   refine take_ (i := 13) (N := some 28) (v := ?_) (a' := ?_) (bs 22 12287) rfl rfl (take_ofW HT_.out HW_.out (by kernel_rfl)) (fun _ _ _ h => h) (Or.inl ⟨by rfl, ?_⟩) hHeld ?_ ?_
   rotate_left
   ·rintro w' ⟨s0, s1, s2, s3, s4, s5, s6, s7, s8, s9, s10⟩
    go_simp
    with_reducible rfl
   rotate_left
   ·simp only [Act.put, sA, sB, sC, i64_w, i32_w]
    rfl
   refine one_ (i := 12) (N := some 27) (bs 22 16383) rfl rfl (one_of HT_.out (by kernel_rfl)) (by decide) (fun K hK => ?_)
   refine goes_ Try.func17 (by kernel_rfl) rfl #[.agg #[.int .i64 2, .int .i64 1, .slice Ao9 y381.length co9], .int .i64 0, .int .i64 65536, .int .i64 0] (by rfl) rfl rfl (by (try simp only [List.map_toArray, List.map_cons, List.map_nil]); first | done | rfl | (simp only [List.length_drop, List.length_take]; rfl)) ?_
   with_reducible refine (sample_At.calls k 2 1 _ _ y381 0 65536 0 t394 t395 t396 t397 _ ?side1 ?side2 A30.out).mono ?_
   (case side1 => repeat (first | exact (Kd.R_reads' HO383.out).2.2 | (with_reducible refine Kd.C_alloc ?_ _) | (with_reducible refine Kd.C_drewN ?_ _) | (with_reducible refine Kd.C_drew ?_)))
   (case side2 => exact (Kd.R_reads' HO383.out).2.1)
   rintro e w36 ⟨rfl, hb⟩
   refine ⟨_, rfl, ?_⟩
   replace HO383 := zr HO383 hb
   replace E4 := zk E4 hb
   replace E3 := zk E3 hb
   replace E2 := zk E2 hb
   replace E1 := zk E1 hb
   replace HB := zb HB hb
   (try clear hb)
   (try clear hb2)
   (try clear hk)
   (try clear hi)
   refine hK.out _ _ ⟨(blk_cell E2.out 0).trans rfl, (blk_cell E2.out 1).trans rfl, (blk_cell E2.out 2).trans rfl, (blk_cell E1.out 0).trans rfl, (blk_cell E1.out 1).trans rfl, (blk_cell E1.out 2).trans rfl, (blk_cell E1.out 3).trans rfl, (blk_cell E3.out 0).trans rfl, (blk_cell E3.out 1).trans rfl, (blk_cell E3.out 2).trans rfl, (blk_cell E3.out 3).trans rfl⟩ (fun hHeld => ?_)
   clear hK K
   refine norm_ (a' := ?_) ?_ ?_
   rotate_left
   ·show Act.put _ (some 27) _ = _
    simp only [Act.put, sA, sB, sC, i64_w, i32_w]
    rfl
   refine pure_ (i := 14) (N := some 29) (v := ?_) (a' := ?_) (bs 22 32767) rfl rfl (any_of HT_.out (by kernel_rfl)) (fun _ _ _ h => h) (Or.inl ⟨by rfl, ?_⟩) ?_ ?_
   rotate_left
   ·intro w'
    go_simp
    with_reducible rfl
   rotate_left
   ·simp only [Act.put, sA, sB, sC, i64_w, i32_w]
    rfl
   refine pure_ (i := 15) (N := some 30) (v := ?_) (a' := ?_) (bs 22 65535) rfl rfl (any_of HT_.out (by kernel_rfl)) (fun _ _ _ h => h) (Or.inl ⟨by rfl, ?_⟩) ?_ ?_
   rotate_left
   ·intro w'
    go_simp
    with_reducible rfl
   rotate_left
   ·simp only [Act.put, sA, sB, sC, i64_w, i32_w]
    rfl
   refine pure_ (i := 16) (N := some 31) (v := ?_) (a' := ?_) (bs 22 131071) rfl rfl (any_of HT_.out (by kernel_rfl)) (fun _ _ _ h => h) (Or.inl ⟨by rfl, ?_⟩) ?_ ?_
   rotate_left
   ·intro w'
    go_simp
    with_reducible rfl
   rotate_left
   ·simp only [Act.put, sA, sB, sC, i64_w, i32_w]
    rfl
   refine pure_ (i := 17) (N := some 32) (v := undef) (a' := ?_) (bs 22 262143) rfl rfl (any_of HT_.out (by kernel_rfl)) (fun _ _ _ h => h) (Or.inr ⟨by rfl, rfl⟩) ?_ ?_
   rotate_left
   ·simp only [Act.put, sA, sB, sC, i64_w, i32_w]
    rfl
   refine pure_ (i := 18) (N := some 33) (v := undef) (a' := ?_) (bs 22 524287) rfl rfl (any_of HT_.out (by kernel_rfl)) (fun _ _ _ h => h) (Or.inr ⟨by rfl, rfl⟩) ?_ ?_
   rotate_left
   ·simp only [Act.put, sA, sB, sC, i64_w, i32_w]
    rfl
   refine pure_ (i := 19) (N := some 34) (v := undef) (a' := ?_) (bs 22 1048575) rfl rfl (any_of HT_.out (by kernel_rfl)) (fun _ _ _ h => h) (Or.inr ⟨by rfl, rfl⟩) ?_ ?_
   rotate_left
   ·simp only [Act.put, sA, sB, sC, i64_w, i32_w]
    rfl
   refine pure_ (i := 20) (N := some 35) (v := undef) (a' := ?_) (bs 22 2097151) rfl rfl (any_of HT_.out (by kernel_rfl)) (fun _ _ _ h => h) (Or.inr ⟨by rfl, rfl⟩) ?_ ?_
   rotate_left
   ·simp only [Act.put, sA, sB, sC, i64_w, i32_w]
    rfl
   refine pure_ (i := 21) (N := some 36) (v := ?_) (a' := ?_) (bs 22 4194303) rfl rfl (any_of HT_.out (by kernel_rfl)) (fun _ _ _ h => h) (Or.inl ⟨by rfl, ?_⟩) ?_ ?_
   rotate_left
   ·intro w'
    go_simp
    with_reducible rfl
   rotate_left
   ·simp only [Act.put, sA, sB, sC, i64_w, i32_w]
    rfl
   refine done_ (done_of HT_.out (by kernel_rfl)) ?_
   try go_wp2
   go_meet
   case rel => exact ⟨_, (true), (by first | rfl | (simp; done) | (simp [*]; done)), H', ⟨by first | omega | exact Nat.le_refl _⟩, ⟨by exact zr0 HO383⟩, ⟨by exact zk0 E4⟩, ⟨by exact zk0 E3⟩, ⟨by exact zk0 E2⟩, ⟨by exact zk0 E1⟩, ⟨by exact zb0 HB⟩⟩
  rw [if_neg c31] at H
  have Z9 : (!(t394 == 0) || (!(t395 == 0) || (!(t396 == 0) || (!(t397 == 65535))))) = false := by simpa using c31
  clear c31
  replace H := Option.bind_eq_some_iff.mp H
  obtain ⟨⟨t398, t399, t400, t401⟩, A370, H⟩ := H
  try dsimp only at H
  have A37 := Aside0.mk A370
  clear A370
  have H' := Aside0.mk H
  clear H
  try go_wp2
  have n0_ : Aside0 (Kd.R k37 37 ((((w14.setCell ⟨E0, 0, none⟩ (.int .i64 32768)).setCell ⟨E0, 1, none⟩ (.int .i64 0)).setCell ⟨E0, 2, none⟩ (.int .i64 0)).setCell ⟨E0, 3, none⟩ (.int .i64 65535)) w.heap.size (fun k_ => k_ ≠ E9 ∧ k_ ≠ E7 ∧ k_ ≠ E0) (.slice Ao9 y381.length co9) y381) := ⟨by (with_reducible repeat (first | apply Kd.R_alloc | apply Kd.R_drewN | apply Kd.R_drew)); exact Kd.R_mono (Kd.R_far (p := ⟨E0, 3, none⟩) (Kd.R_far (p := ⟨E0, 2, none⟩) (Kd.R_far (p := ⟨E0, 1, none⟩) (Kd.R_far (p := ⟨E0, 0, none⟩) (Kd.R_mono HO383.out (fun k_ hk => (⟨hk, hk.2⟩ : _ ∧ k_ ≠ E0))) (fun _ hk => hk.2) (.int .i64 32768)) (fun _ hk => hk.2) (.int .i64 0)) (fun _ hk => hk.2) (.int .i64 0)) (fun _ hk => hk.2) (.int .i64 65535)) (fun _ hk => ⟨hk.1.1.1.2, ⟨hk.1.1.2, hk.1.2⟩⟩)⟩
  have n1_ : Aside0 (((((w14.setCell ⟨E0, 0, none⟩ (.int .i64 32768)).setCell ⟨E0, 1, none⟩ (.int .i64 0)).setCell ⟨E0, 2, none⟩ (.int .i64 0)).setCell ⟨E0, 3, none⟩ (.int .i64 65535)).heap[E9]? = some (.cells #[.int .i64 65535, .int .i64 0, .int .i64 0, .int .i64 65535] 37 (0, 0))) := ⟨by exact zf E4 Y3⟩
  have n2_ : Aside0 (((((w14.setCell ⟨E0, 0, none⟩ (.int .i64 32768)).setCell ⟨E0, 1, none⟩ (.int .i64 0)).setCell ⟨E0, 2, none⟩ (.int .i64 0)).setCell ⟨E0, 3, none⟩ (.int .i64 65535)).heap[E7]? = some (.cells #[.int .i64 0, .int .i64 0, .int .i64 0, .int .i64 65535] 37 (0, 0))) := ⟨by exact zf E3 Y4⟩
  have n3_ : Aside0 (((((w14.setCell ⟨E0, 0, none⟩ (.int .i64 32768)).setCell ⟨E0, 1, none⟩ (.int .i64 0)).setCell ⟨E0, 2, none⟩ (.int .i64 0)).setCell ⟨E0, 3, none⟩ (.int .i64 65535)).heap[E8]? = some (.cells #[.int .i64 2, .int .i64 1, .slice Ao9 y381.length co9] 24 (0, 0))) := ⟨by exact zf E2 V5⟩
  have n4_ : Aside0 (((((w14.setCell ⟨E0, 0, none⟩ (.int .i64 32768)).setCell ⟨E0, 1, none⟩ (.int .i64 0)).setCell ⟨E0, 2, none⟩ (.int .i64 0)).setCell ⟨E0, 3, none⟩ (.int .i64 65535)).heap[E0]? = some (.cells #[.int .i64 32768, .int .i64 0, .int .i64 0, .int .i64 65535] 37 (0, 0))) := ⟨by exact zp E1 rfl⟩
  have n5_ : Aside0 (Below w.heap.size w ((((w14.setCell ⟨E0, 0, none⟩ (.int .i64 32768)).setCell ⟨E0, 1, none⟩ (.int .i64 0)).setCell ⟨E0, 2, none⟩ (.int .i64 0)).setCell ⟨E0, 3, none⟩ (.int .i64 65535))) := ⟨by exact zbo HB Z7⟩
  (try clear HO383)
  (try clear E4)
  (try clear E3)
  (try clear E2)
  (try clear E1)
  (try clear HB)
  generalize ((((w14.setCell ⟨E0, 0, none⟩ (.int .i64 32768)).setCell ⟨E0, 1, none⟩ (.int .i64 0)).setCell ⟨E0, 2, none⟩ (.int .i64 0)).setCell ⟨E0, 3, none⟩ (.int .i64 65535)) = w38 at n0_ n1_ n2_ n3_ n4_ n5_ ⊢
  have HO383 := n0_
  have E4 := n1_
  have E3 := n2_
  have E2 := n3_
  have E1 := n4_
  have HB := n5_
  clear n0_ n1_ n2_ n3_ n4_ n5_
  replace HO383 := zrd HO383
  replace E4 := zkd E4
  replace E3 := zkd E3
  replace E2 := zkd E2
  replace E1 := zkd E1
  replace HB := zbd HB
  refine start_ (n := 22) (S := fun w' => w'.cell? ⟨E8, 0, none⟩ = some (.int .i64 2) ∧ w'.cell? ⟨E8, 1, none⟩ = some (.int .i64 1) ∧ w'.cell? ⟨E8, 2, none⟩ = some (.slice Ao9 y381.length co9) ∧ w'.cell? ⟨E0, 0, none⟩ = some (.int .i64 32768) ∧ w'.cell? ⟨E0, 1, none⟩ = some (.int .i64 0) ∧ w'.cell? ⟨E0, 2, none⟩ = some (.int .i64 0) ∧ w'.cell? ⟨E0, 3, none⟩ = some (.int .i64 65535) ∧ w'.cell? ⟨E7, 0, none⟩ = some (.int .i64 0) ∧ w'.cell? ⟨E7, 1, none⟩ = some (.int .i64 0) ∧ w'.cell? ⟨E7, 2, none⟩ = some (.int .i64 0) ∧ w'.cell? ⟨E7, 3, none⟩ = some (.int .i64 65535)) (ds := []) (bs 22 0) (by kernel_rfl) rfl rfl ⟨(blk_cell E2.out 0).trans rfl, (blk_cell E2.out 1).trans rfl, (blk_cell E2.out 2).trans rfl, (blk_cell E1.out 0).trans rfl, (blk_cell E1.out 1).trans rfl, (blk_cell E1.out 2).trans rfl, (blk_cell E1.out 3).trans rfl, (blk_cell E3.out 0).trans rfl, (blk_cell E3.out 1).trans rfl, (blk_cell E3.out 2).trans rfl, (blk_cell E3.out 3).trans rfl⟩ (fun hHeld => ?_); refine with_tabW imageeditorlaw14_awake.tab4 imageeditorlaw14_awake.bits4 (fun HT_ HW_ => ?_)
  generalize w38.drew = w39 at HO383 E4 E3 E2 E1 HB HO383 hHeld ⊢
  refine take_ (i := 0) (N := some 15) (v := ?_) (a' := ?_) (bs 22 1) rfl rfl (take_ofW HT_.out HW_.out (by kernel_rfl)) (fun _ _ _ h => h) (Or.inl ⟨by rfl, ?_⟩) hHeld ?_ ?_
  rotate_left
  ·rintro w' ⟨s0, s1, s2, s3, s4, s5, s6, s7, s8, s9, s10⟩
   go_simp
   with_reducible rfl
  rotate_left
  ·simp only [Act.put, sA, sB, sC, i64_w, i32_w]
   rfl
  refine take_ (i := 2) (N := some 17) (v := ?_) (a' := ?_) (bs 22 5) rfl rfl (take_ofW HT_.out HW_.out (by kernel_rfl)) (fun _ _ _ h => h) (Or.inl ⟨by rfl, ?_⟩) hHeld ?_ ?_
  rotate_left
  ·rintro w' ⟨s0, s1, s2, s3, s4, s5, s6, s7, s8, s9, s10⟩
   go_simp
   with_reducible rfl
  rotate_left
  ·simp only [Act.put, sA, sB, sC, i64_w, i32_w]
   rfl
  refine one_ (i := 1) (N := some 16) (bs 22 7) rfl rfl (one_of HT_.out (by kernel_rfl)) (by decide) (fun K hK => ?_)
  refine goes_ Try.func17 (by kernel_rfl) rfl #[.agg #[.int .i64 2, .int .i64 1, .slice Ao9 y381.length co9], .int .i64 1, .int .i64 65536, .int .i64 32768] (by rfl) rfl rfl (by (try simp only [List.map_toArray, List.map_cons, List.map_nil]); first | done | rfl | (simp only [List.length_drop, List.length_take]; rfl)) ?_
  with_reducible refine (sample_At.calls k 2 1 _ _ y381 1 65536 32768 t386 t387 t388 t389 _ ?side1 ?side2 A19.out).mono ?_
  (case side1 => repeat (first | exact (Kd.R_reads' HO383.out).2.2 | (with_reducible refine Kd.C_alloc ?_ _) | (with_reducible refine Kd.C_drewN ?_ _) | (with_reducible refine Kd.C_drew ?_)))
  (case side2 => exact (Kd.R_reads' HO383.out).2.1)
  rintro e w40 ⟨rfl, hb⟩
  refine ⟨_, rfl, ?_⟩
  replace HO383 := zr HO383 hb
  replace E4 := zk E4 hb
  replace E3 := zk E3 hb
  replace E2 := zk E2 hb
  replace E1 := zk E1 hb
  replace HB := zb HB hb
  (try clear hb)
  (try clear hb2)
  (try clear hk)
  (try clear hi)
  refine hK.out _ _ ⟨(blk_cell E2.out 0).trans rfl, (blk_cell E2.out 1).trans rfl, (blk_cell E2.out 2).trans rfl, (blk_cell E1.out 0).trans rfl, (blk_cell E1.out 1).trans rfl, (blk_cell E1.out 2).trans rfl, (blk_cell E1.out 3).trans rfl, (blk_cell E3.out 0).trans rfl, (blk_cell E3.out 1).trans rfl, (blk_cell E3.out 2).trans rfl, (blk_cell E3.out 3).trans rfl⟩ (fun hHeld => ?_)
  clear hK K
  refine norm_ (a' := ?_) ?_ ?_
  rotate_left
  ·show Act.put _ (some 16) _ = _
   simp only [Act.put, sA, sB, sC, i64_w, i32_w]
   rfl
  refine pure_ (i := 3) (N := some 18) (v := ?_) (a' := ?_) (bs 22 15) rfl rfl (any_of HT_.out (by kernel_rfl)) (fun _ _ _ h => h) (Or.inl ⟨by rfl, ?_⟩) ?_ ?_
  rotate_left
  ·intro w'
   go_simp
   with_reducible rfl
  rotate_left
  ·simp only [Act.put, sA, sB, sC, i64_w, i32_w]
   rfl
  refine pure_ (i := 4) (N := some 19) (v := ?_) (a' := ?_) (bs 22 31) rfl rfl (any_of HT_.out (by kernel_rfl)) (fun _ _ _ h => h) (Or.inl ⟨by rfl, ?_⟩) ?_ ?_
  rotate_left
  ·intro w'
   go_simp
   with_reducible rfl
  rotate_left
  ·simp only [Act.put, sA, sB, sC, i64_w, i32_w]
   rfl
  refine pure_ (i := 7) (N := some 22) (v := ?_) (a' := ?_) (bs 22 159) rfl rfl (any_of HT_.out (by kernel_rfl)) (fun _ _ _ h => h) (Or.inl ⟨by rfl, ?_⟩) ?_ ?_
  rotate_left
  ·intro w'
   go_simp
   with_reducible rfl
  rotate_left
  ·simp only [Act.put, sA, sB, sC, i64_w, i32_w]
   rfl
  refine take_ (i := 5) (N := some 20) (v := ?_) (a' := ?_) (bs 22 191) rfl rfl (take_ofW HT_.out HW_.out (by kernel_rfl)) (fun _ _ _ h => h) (Or.inl ⟨by rfl, ?_⟩) hHeld ?_ ?_
  rotate_left
  ·rintro w' ⟨s0, s1, s2, s3, s4, s5, s6, s7, s8, s9, s10⟩
   go_simp
   with_reducible rfl
  rotate_left
  ·simp only [Act.put, sA, sB, sC, i64_w, i32_w]
   rfl
  refine one_ (i := 6) (N := some 21) (bs 22 255) rfl rfl (one_of HT_.out (by kernel_rfl)) (by decide) (fun K hK => ?_)
  refine goes_ Try.func17 (by kernel_rfl) rfl #[.agg #[.int .i64 2, .int .i64 1, .slice Ao9 y381.length co9], .int .i64 1, .int .i64 0, .int .i64 32768] (by rfl) rfl rfl (by (try simp only [List.map_toArray, List.map_cons, List.map_nil]); first | done | rfl | (simp only [List.length_drop, List.length_take]; rfl)) ?_
  with_reducible refine (sample_At.calls k 2 1 _ _ y381 1 0 32768 t390 t391 t392 t393 _ ?side1 ?side2 A24.out).mono ?_
  (case side1 => repeat (first | exact (Kd.R_reads' HO383.out).2.2 | (with_reducible refine Kd.C_alloc ?_ _) | (with_reducible refine Kd.C_drewN ?_ _) | (with_reducible refine Kd.C_drew ?_)))
  (case side2 => exact (Kd.R_reads' HO383.out).2.1)
  rintro e w41 ⟨rfl, hb⟩
  refine ⟨_, rfl, ?_⟩
  replace HO383 := zr HO383 hb
  replace E4 := zk E4 hb
  replace E3 := zk E3 hb
  replace E2 := zk E2 hb
  replace E1 := zk E1 hb
  replace HB := zb HB hb
  (try clear hb)
  (try clear hb2)
  (try clear hk)
  (try clear hi)
  refine hK.out _ _ ⟨(blk_cell E2.out 0).trans rfl, (blk_cell E2.out 1).trans rfl, (blk_cell E2.out 2).trans rfl, (blk_cell E1.out 0).trans rfl, (blk_cell E1.out 1).trans rfl, (blk_cell E1.out 2).trans rfl, (blk_cell E1.out 3).trans rfl, (blk_cell E3.out 0).trans rfl, (blk_cell E3.out 1).trans rfl, (blk_cell E3.out 2).trans rfl, (blk_cell E3.out 3).trans rfl⟩ (fun hHeld => ?_)
  clear hK K
  refine norm_ (a' := ?_) ?_ ?_
  rotate_left
  ·show Act.put _ (some 21) _ = _
   simp only [Act.put, sA, sB, sC, i64_w, i32_w]
   rfl
  refine pure_ (i := 8) (N := some 23) (v := ?_) (a' := ?_) (bs 22 511) rfl rfl (any_of HT_.out (by kernel_rfl)) (fun _ _ _ h => h) (Or.inl ⟨by rfl, ?_⟩) ?_ ?_
  rotate_left
  ·intro w'
   go_simp
   with_reducible rfl
  rotate_left
  ·simp only [Act.put, sA, sB, sC, i64_w, i32_w]
   rfl
  refine pure_ (i := 9) (N := some 24) (v := ?_) (a' := ?_) (bs 22 1023) rfl rfl (any_of HT_.out (by kernel_rfl)) (fun _ _ _ h => h) (Or.inl ⟨by rfl, ?_⟩) ?_ ?_
  rotate_left
  ·intro w'
   go_simp
   with_reducible rfl
  rotate_left
  ·simp only [Act.put, sA, sB, sC, i64_w, i32_w]
   rfl
  refine pure_ (i := 10) (N := some 25) (v := ?_) (a' := ?_) (bs 22 2047) rfl rfl (any_of HT_.out (by kernel_rfl)) (fun _ _ _ h => h) (Or.inl ⟨by rfl, ?_⟩) ?_ ?_
  rotate_left
  ·intro w'
   go_simp
   with_reducible rfl
  rotate_left
  ·simp only [Act.put, sA, sB, sC, i64_w, i32_w]
   rfl
  refine take_ (i := 11) (N := some 26) (v := ?_) (a' := ?_) (bs 22 4095) rfl rfl (take_ofW HT_.out HW_.out (by kernel_rfl)) (fun _ _ _ h => h) (Or.inl ⟨by rfl, ?_⟩) hHeld ?_ ?_
  rotate_left
  ·rintro w' ⟨s0, s1, s2, s3, s4, s5, s6, s7, s8, s9, s10⟩
   go_simp
   with_reducible rfl
  rotate_left
  ·simp only [Act.put, sA, sB, sC, i64_w, i32_w]
   rfl
  refine take_ (i := 13) (N := some 28) (v := ?_) (a' := ?_) (bs 22 12287) rfl rfl (take_ofW HT_.out HW_.out (by kernel_rfl)) (fun _ _ _ h => h) (Or.inl ⟨by rfl, ?_⟩) hHeld ?_ ?_
  rotate_left
  ·rintro w' ⟨s0, s1, s2, s3, s4, s5, s6, s7, s8, s9, s10⟩
   go_simp
   with_reducible rfl
  rotate_left
  ·simp only [Act.put, sA, sB, sC, i64_w, i32_w]
   rfl
  refine one_ (i := 12) (N := some 27) (bs 22 16383) rfl rfl (one_of HT_.out (by kernel_rfl)) (by decide) (fun K hK => ?_)
  refine goes_ Try.func17 (by kernel_rfl) rfl #[.agg #[.int .i64 2, .int .i64 1, .slice Ao9 y381.length co9], .int .i64 0, .int .i64 65536, .int .i64 0] (by rfl) rfl rfl (by (try simp only [List.map_toArray, List.map_cons, List.map_nil]); first | done | rfl | (simp only [List.length_drop, List.length_take]; rfl)) ?_
  with_reducible refine (sample_At.calls k 2 1 _ _ y381 0 65536 0 t394 t395 t396 t397 _ ?side1 ?side2 A30.out).mono ?_
  (case side1 => repeat (first | exact (Kd.R_reads' HO383.out).2.2 | (with_reducible refine Kd.C_alloc ?_ _) | (with_reducible refine Kd.C_drewN ?_ _) | (with_reducible refine Kd.C_drew ?_)))
  (case side2 => exact (Kd.R_reads' HO383.out).2.1)
  rintro e w42 ⟨rfl, hb⟩
  refine ⟨_, rfl, ?_⟩
  replace HO383 := zr HO383 hb
  replace E4 := zk E4 hb
  replace E3 := zk E3 hb
  replace E2 := zk E2 hb
  replace E1 := zk E1 hb
  replace HB := zb HB hb
  (try clear hb)
  (try clear hb2)
  (try clear hk)
  (try clear hi)
  refine hK.out _ _ ⟨(blk_cell E2.out 0).trans rfl, (blk_cell E2.out 1).trans rfl, (blk_cell E2.out 2).trans rfl, (blk_cell E1.out 0).trans rfl, (blk_cell E1.out 1).trans rfl, (blk_cell E1.out 2).trans rfl, (blk_cell E1.out 3).trans rfl, (blk_cell E3.out 0).trans rfl, (blk_cell E3.out 1).trans rfl, (blk_cell E3.out 2).trans rfl, (blk_cell E3.out 3).trans rfl⟩ (fun hHeld => ?_)
  clear hK K
  refine norm_ (a' := ?_) ?_ ?_
  rotate_left
  ·show Act.put _ (some 27) _ = _
   simp only [Act.put, sA, sB, sC, i64_w, i32_w]
   rfl
  refine pure_ (i := 14) (N := some 29) (v := ?_) (a' := ?_) (bs 22 32767) rfl rfl (any_of HT_.out (by kernel_rfl)) (fun _ _ _ h => h) (Or.inl ⟨by rfl, ?_⟩) ?_ ?_
  rotate_left
  ·intro w'
   go_simp
   with_reducible rfl
  rotate_left
  ·simp only [Act.put, sA, sB, sC, i64_w, i32_w]
   rfl
  refine pure_ (i := 15) (N := some 30) (v := ?_) (a' := ?_) (bs 22 65535) rfl rfl (any_of HT_.out (by kernel_rfl)) (fun _ _ _ h => h) (Or.inl ⟨by rfl, ?_⟩) ?_ ?_
  rotate_left
  ·intro w'
   go_simp
   with_reducible rfl
  rotate_left
  ·simp only [Act.put, sA, sB, sC, i64_w, i32_w]
   rfl
  refine pure_ (i := 16) (N := some 31) (v := ?_) (a' := ?_) (bs 22 131071) rfl rfl (any_of HT_.out (by kernel_rfl)) (fun _ _ _ h => h) (Or.inl ⟨by rfl, ?_⟩) ?_ ?_
  rotate_left
  ·intro w'
   go_simp
   with_reducible rfl
  rotate_left
  ·simp only [Act.put, sA, sB, sC, i64_w, i32_w]
   rfl
  refine pure_ (i := 19) (N := some 34) (v := ?_) (a' := ?_) (bs 22 655359) rfl rfl (any_of HT_.out (by kernel_rfl)) (fun _ _ _ h => h) (Or.inl ⟨by rfl, ?_⟩) ?_ ?_
  rotate_left
  ·intro w'
   go_simp
   with_reducible rfl
  rotate_left
  ·simp only [Act.put, sA, sB, sC, i64_w, i32_w]
   rfl
  refine take_ (i := 17) (N := some 32) (v := ?_) (a' := ?_) (bs 22 786431) rfl rfl (take_ofW HT_.out HW_.out (by kernel_rfl)) (fun _ _ _ h => h) (Or.inl ⟨by rfl, ?_⟩) hHeld ?_ ?_
  rotate_left
  ·rintro w' ⟨s0, s1, s2, s3, s4, s5, s6, s7, s8, s9, s10⟩
   go_simp
   with_reducible rfl
  rotate_left
  ·simp only [Act.put, sA, sB, sC, i64_w, i32_w]
   rfl
  refine one_ (i := 18) (N := some 33) (bs 22 1048575) rfl rfl (one_of HT_.out (by kernel_rfl)) (by decide) (fun K hK => ?_)
  refine goes_ Try.func17 (by kernel_rfl) rfl #[.agg #[.int .i64 2, .int .i64 1, .slice Ao9 y381.length co9], .int .i64 0, .int .i64 (-1), .int .i64 0] (by rfl) rfl rfl (by (try simp only [List.map_toArray, List.map_cons, List.map_nil]); first | done | rfl | (simp only [List.length_drop, List.length_take]; rfl)) ?_
  with_reducible refine (sample_At.calls k 2 1 _ _ y381 0 (-1) 0 t398 t399 t400 t401 _ ?side1 ?side2 A37.out).mono ?_
  (case side1 => repeat (first | exact (Kd.R_reads' HO383.out).2.2 | (with_reducible refine Kd.C_alloc ?_ _) | (with_reducible refine Kd.C_drewN ?_ _) | (with_reducible refine Kd.C_drew ?_)))
  (case side2 => exact (Kd.R_reads' HO383.out).2.1)
  rintro e w43 ⟨rfl, hb⟩
  refine ⟨_, rfl, ?_⟩
  replace HO383 := zr HO383 hb
  replace E4 := zk E4 hb
  replace E3 := zk E3 hb
  replace E2 := zk E2 hb
  replace E1 := zk E1 hb
  replace HB := zb HB hb
  (try clear hb)
  (try clear hb2)
  (try clear hk)
  (try clear hi)
  refine hK.out _ _ ⟨(blk_cell E2.out 0).trans rfl, (blk_cell E2.out 1).trans rfl, (blk_cell E2.out 2).trans rfl, (blk_cell E1.out 0).trans rfl, (blk_cell E1.out 1).trans rfl, (blk_cell E1.out 2).trans rfl, (blk_cell E1.out 3).trans rfl, (blk_cell E3.out 0).trans rfl, (blk_cell E3.out 1).trans rfl, (blk_cell E3.out 2).trans rfl, (blk_cell E3.out 3).trans rfl⟩ (fun hHeld => ?_)
  clear hK K
  refine norm_ (a' := ?_) ?_ ?_
  rotate_left
  ·show Act.put _ (some 33) _ = _
   simp only [Act.put, sA, sB, sC, i64_w, i32_w]
   rfl
  refine pure_ (i := 20) (N := some 35) (v := ?_) (a' := ?_) (bs 22 2097151) rfl rfl (any_of HT_.out (by kernel_rfl)) (fun _ _ _ h => h) (Or.inl ⟨by rfl, ?_⟩) ?_ ?_
  rotate_left
  ·intro w'
   go_simp
   with_reducible rfl
  rotate_left
  ·simp only [Act.put, sA, sB, sC, i64_w, i32_w]
   rfl
  refine pure_ (i := 21) (N := some 36) (v := ?_) (a' := ?_) (bs 22 4194303) rfl rfl (any_of HT_.out (by kernel_rfl)) (fun _ _ _ h => h) (Or.inl ⟨by rfl, ?_⟩) ?_ ?_
  rotate_left
  ·intro w'
   go_simp
   with_reducible rfl
  rotate_left
  ·simp only [Act.put, sA, sB, sC, i64_w, i32_w]
   rfl
  refine done_ (done_of HT_.out (by kernel_rfl)) ?_
  try go_wp2
  go_meet
  case rel => exact ⟨_, ((!(t398 == 0) || (!(t399 == 0) || (!(t400 == 0) || (!(t401 == 0)))))), (by first | rfl | (simp; done) | (simp [*]; done)), H', ⟨by first | omega | exact Nat.le_refl _⟩, ⟨by exact zr0 HO383⟩, ⟨by exact zk0 E4⟩, ⟨by exact zk0 E3⟩, ⟨by exact zk0 E2⟩, ⟨by exact zk0 E1⟩, ⟨by exact zb0 HB⟩⟩
 case rest =>
  clear HC1
  try clear c1
  try clear c2
  try clear p2
  try clear c3
  try clear c17
  try clear c25
  try clear Z8
  try clear c31
  try clear Z9
  obtain ⟨kq, x36_0, rfl, HA, HJ0, E6, E4, E3, E2, E1, HB⟩ := hcut
  cases kq with
  | zero => exact absurd HA.out (by simp [imageeditorlaw14_awake.j0])
  | succ kj0 =>
   have H := HA.out
   clear HA
   simp only [imageeditorlaw14_awake.j0] at H
   by_cases c44 : x36_0 = true
   ·subst c44
    rw [if_pos rfl] at H
    exact absurd HT.out (by rw [← Option.some.inj H]; decide)
   replace c44 := Bool.eq_false_iff.mpr c44
   subst c44
   rw [if_neg (show ¬ (false = true) by decide)] at H
   replace H := Option.bind_eq_some_iff.mp H
   obtain ⟨⟨t402, t403, t404, t407⟩, A450, H⟩ := H
   try dsimp only at H
   have A45 := Aside0.mk A450
   clear A450
   have HC46 := Aside0.mk H
   clear H
   have E1P := L1.out
   have E1Q := Y1.out
   have E1R := L2.out
   have E1S := Y2.out
   have E1T := V5.out
   have E1U := J5.out
   obtain ⟨L3, L4, L5, L6, L7, L8⟩ := zq3 E2
   go_upto_region 7 with (first | ((with_reducible refine gate_callee (f := 9) rfl ?_); refine goesL_ (some 41) rfl rfl Try.func9 (by kernel_rfl) rfl #[.agg #[.int .i64 2, .int .i64 1, .slice Ao9 y381.length co9], .agg #[.int .i64 131072, .int .i64 0, .int .i64 0, .int .i64 131072, .int .i64 0, .int .i64 0], .int .i64 0, .agg #[.int .i64 0, .int .i64 0, .int .i64 4, .int .i64 2]] rfl (by (try simp only [List.map_toArray, List.map_cons, List.map_nil]); first | done | rfl | (simp only [List.length_drop, List.length_take]; rfl)) ?_; (with_reducible refine (sample_Draw.calls kj0 2 1 _ _ y381 131072 0 0 131072 0 0 0 0 0 4 2 t402 t403 t404 t407 _ ?side1 ?side2 A45.out).mono ?_); (case side1 => repeat (first | exact (Kd.R_reads' E6.out).2.2 | (with_reducible refine Kd.C_alloc ?_ _) | (with_reducible refine Kd.C_drewN ?_ _) | (with_reducible refine Kd.C_drew ?_))); (case side2 => exact (Kd.R_reads' E6.out).2.1); rintro e w51 ⟨v405, rfl, ho0, hb⟩; refine ⟨_, rfl, ?_⟩; have n0_ := Aside0.mk (Kd.R_lower (Kd.R_newB (Kd.R_newB (Kd.R_newB ho0 (zk0 E4)) (zk0 E3)) (zk0 E1)) (below_size (by exact zb0 HB))); replace E6 := zr E6 hb; replace E4 := zk E4 hb; replace E3 := zk E3 hb; replace E2 := zk E2 hb; replace E1 := zk E1 hb; replace HB := zb HB hb; have HO406 := n0_; clear n0_; (try clear hb); (try clear hb2); (try clear hk); (try clear hi); (try clear ho0)) | ((with_reducible refine gate_dst (N := 5) rfl ?_); (try (refine gate_guard (by rfl) ?_; dsimp only)); refine box_event ?hg (N := 5) ?hd (cs := #[.int .i64 0, .int .i64 0, .slice none 0 0]) (t := 24) ?hr ?_; (case hd => rfl); (case hg => rfl); (case hr => first | (go_simp; done) | (go_simp; rfl)); intro V6 hg w52 hbox hb; have E1V := zg HB hg; have Y6 := zg HB hg; have J0 := zn E4 hg; have E0y := zn' E4 hg; have J1 := zn E3 hg; have E0z := zn' E3 hg; have J2 := zn E2 hg; have L9 := zn' E2 hg; have V7 := zn E1 hg; have Q0 := zn' E1 hg; have n0_ := Aside0.mk (hbox); replace E6 := zr E6 hb; replace HO406 := zr HO406 hb; replace E4 := zk E4 hb; replace E3 := zk E3 hb; replace E2 := zk E2 hb; replace E1 := zk E1 hb; replace HB := zb HB hb; have E5 := n0_; clear n0_; clear hb hbox hg; have E1W := E0y.out; have E1X := J0.out; have E1Y := E0z.out; have E1Z := J1.out; have E2a := L9.out; have E2b := J2.out; have E2c := Q0.out; have E2d := V7.out; obtain ⟨Q1, Q2, Q3, Q4, Q5, Q6⟩ := zq3 E5; obtain ⟨Ao58, co58, eo58⟩ := Kd.R_slice HO406.out; subst eo58))
   (try simp only [Act.put, sA, sB, sC])
   go_cut [60] (fun v60 wc => ∃ (kq : Nat) (x60_45 : Bool), v60 = .bool x60_45 ∧ Aside0 (imageeditorlaw14_awake.j1 kq x60_45 2 1 y381 32768 0 0 65535 = some r) ∧ Aside0 (kq ≤ kj0) ∧ Aside0 (Kd.R k37 37 wc w.heap.size (fun k_ => k_ ≠ E9 ∧ k_ ≠ E7 ∧ k_ ≠ E0) (.slice Ao9 y381.length co9) y381) ∧ Aside0 (Kd.R k37 37 wc w.heap.size (fun k_ => k_ ≠ E9 ∧ k_ ≠ E7 ∧ k_ ≠ E0) (.slice Ao58 t404.length co58) t404) ∧ Aside0 (wc.heap[E9]? = some (.cells #[.int .i64 65535, .int .i64 0, .int .i64 0, .int .i64 65535] 37 (0, 0))) ∧ Aside0 (wc.heap[E7]? = some (.cells #[.int .i64 0, .int .i64 0, .int .i64 0, .int .i64 65535] 37 (0, 0))) ∧ Aside0 (wc.heap[E8]? = some (.cells #[.int .i64 2, .int .i64 1, (.slice Ao9 y381.length co9)] 24 (0, 0))) ∧ Aside0 (wc.heap[E0]? = some (.cells #[.int .i64 32768, .int .i64 0, .int .i64 0, .int .i64 65535] 37 (0, 0))) ∧ Aside0 (wc.heap[V6]? = some (.cells #[.int .i64 t402, .int .i64 t403, (.slice Ao58 t404.length co58)] 24 (0, 0))) ∧ Aside0 (Below w.heap.size w wc))
   case first =>
    have H := HC46.out
    clear HC46
    by_cases c59 : t407 = 0
    rotate_left
    ·rw [if_neg c59] at H
     have V8 : (t407 == 0) = false := beq_eq_false_iff_ne.mpr c59
     have J6 : (t407 != 0) = true := bne_iff_ne.mpr c59
     (first | rw [V8] | (simp only [i64_w, i32_w]; rw [V8]) | skip)
     have H' := Aside0.mk H
     clear H
     go_wp2
     go_meet
     case rel => exact ⟨_, (true), (by first | rfl | (simp; done) | (simp [*]; done)), H', ⟨by have := HJ0.out; first | omega | exact Nat.le_refl _⟩, ⟨by exact zro E6 E5 (by decide)⟩, ⟨by (with_reducible repeat (first | apply Kd.R_alloc | apply Kd.R_drewN | apply Kd.R_drew)); exact Kd.R_mono (Kd.R_far (p := ⟨V6, 2, none⟩) (Kd.R_far (p := ⟨V6, 1, none⟩) (Kd.R_far (p := ⟨V6, 0, none⟩) (Kd.R_types HO406.out E5.out (by decide)) (fun _ hk => hk.2) (.int .i64 t402)) (fun _ hk => hk.2) (.int .i64 t403)) (fun _ hk => hk.2) (.slice Ao58 t404.length co58)) (fun _ hk => ⟨hk.1.1.1.2, ⟨hk.1.1.2, hk.1.2⟩⟩)⟩, ⟨by exact zf E4 J0⟩, ⟨by exact zf E3 J1⟩, ⟨by exact zf E2 J2⟩, ⟨by exact zf E1 V7⟩, ⟨by exact zp E5 rfl⟩, ⟨by exact zbo HB Y6⟩⟩
    rw [if_pos c59] at H
    have V8 : (t407 == 0) = true := beq_iff_eq.mpr c59
    have J6 : (t407 != 0) = false := bne_eq_false_iff_eq.mpr c59
    clear c59
    (first | rw [V8] | (simp only [i64_w, i32_w]; rw [V8]) | skip)
    obtain ⟨y409, hy409⟩ : ∃ y_ : List (S37), y_ = (([(⟨65535, 0, 0, 65535⟩ : S37), (⟨65535, 0, 0, 65535⟩ : S37), (⟨0, 0, 0, 65535⟩ : S37), (⟨0, 0, 0, 65535⟩ : S37), (⟨65535, 0, 0, 65535⟩ : S37), (⟨65535, 0, 0, 65535⟩ : S37), (⟨0, 0, 0, 65535⟩ : S37), (⟨0, 0, 0, 65535⟩ : S37)] : List (S37))) := ⟨_, rfl⟩
    replace H : ((imageeditorlaw14_same.f kj0 t402 t403 t404 4 2 y409).bind fun t412 => (imageeditorlaw14_awake.j1 kj0 (!t412) 2 1 y381 32768 0 0 65535)) = some r := by first | (rw [hy409]; with_reducible exact H) | (have H2_ := (Option.bind_some _ _).symm.trans H; rw [hy409]; with_reducible exact H2_) | (have H2_ := (Option.bind_some _ _).symm.trans H; with_reducible exact H2_) | with_reducible exact H | (rw [hy409]; exact H) | exact H
    have Ny409 := Aside0.mk hy409
    clear hy409
    replace H := Option.bind_eq_some_iff.mp H
    obtain ⟨t412, A600, H⟩ := H
    try dsimp only at H
    have A60 := Aside0.mk A600
    clear A600
    have H' := Aside0.mk H
    clear H
    obtain ⟨Q7, Q8, Q9, E0a, E0b, E0c⟩ := zq3 E5
    obtain ⟨E0d, E0e, E0f, E0g, E0h, E0i, E0j, E0k⟩ := zq4 E4
    obtain ⟨E0l, E0m, E0n, E0o, E0p, E0q, E0r, E0s⟩ := zq4 E3
    go_wp2_with (first | ((with_reducible refine gate_dst (N := 56) rfl ?_); (try (refine gate_guard (by rfl) ?_; dsimp only)); refine Kd.R_lit k37 _ 37 ?hg (N := 56) ?hd (xs := ([(⟨65535, 0, 0, 65535⟩ : S37), (⟨65535, 0, 0, 65535⟩ : S37), (⟨0, 0, 0, 65535⟩ : S37), (⟨0, 0, 0, 65535⟩ : S37), (⟨65535, 0, 0, 65535⟩ : S37), (⟨65535, 0, 0, 65535⟩ : S37), (⟨0, 0, 0, 65535⟩ : S37), (⟨0, 0, 0, 65535⟩ : S37)] : List (S37))) (inner := [.int .i64 65535, .int .i64 0, .int .i64 0, .int .i64 65535, .int .i64 65535, .int .i64 0, .int .i64 0, .int .i64 65535, .int .i64 0, .int .i64 0, .int .i64 0, .int .i64 65535, .int .i64 0, .int .i64 0, .int .i64 0, .int .i64 65535, .int .i64 65535, .int .i64 0, .int .i64 0, .int .i64 65535, .int .i64 65535, .int .i64 0, .int .i64 0, .int .i64 65535, .int .i64 0, .int .i64 0, .int .i64 0, .int .i64 65535, .int .i64 0, .int .i64 0, .int .i64 0, .int .i64 65535]) (ok := fun _ => True) (okp := fun _ => True) ?hr ?hp (fun _ hk => hk) trivial (Below.refl _ _) (Nat.le_refl _) (by simp) ?_; (case hd => rfl); (case hg => rfl); (case hr => first | (go_simp; done) | (go_simp; rfl)); (case hp => exact (Reps.c4 (show Kd.M k37 _ _ _ (⟨65535, 0, 0, 65535⟩ : S37) [.int .i64 65535, .int .i64 0, .int .i64 0, .int .i64 65535] from (k37_mkM _ _ _ (⟨65535, 0, 0, 65535⟩ : S37) )) (Reps.c4 (show Kd.M k37 _ _ _ (⟨65535, 0, 0, 65535⟩ : S37) [.int .i64 65535, .int .i64 0, .int .i64 0, .int .i64 65535] from (k37_mkM _ _ _ (⟨65535, 0, 0, 65535⟩ : S37) )) (Reps.c4 (show Kd.M k37 _ _ _ (⟨0, 0, 0, 65535⟩ : S37) [.int .i64 0, .int .i64 0, .int .i64 0, .int .i64 65535] from (k37_mkM _ _ _ (⟨0, 0, 0, 65535⟩ : S37) )) (Reps.c4 (show Kd.M k37 _ _ _ (⟨0, 0, 0, 65535⟩ : S37) [.int .i64 0, .int .i64 0, .int .i64 0, .int .i64 65535] from (k37_mkM _ _ _ (⟨0, 0, 0, 65535⟩ : S37) )) (Reps.c4 (show Kd.M k37 _ _ _ (⟨65535, 0, 0, 65535⟩ : S37) [.int .i64 65535, .int .i64 0, .int .i64 0, .int .i64 65535] from (k37_mkM _ _ _ (⟨65535, 0, 0, 65535⟩ : S37) )) (Reps.c4 (show Kd.M k37 _ _ _ (⟨65535, 0, 0, 65535⟩ : S37) [.int .i64 65535, .int .i64 0, .int .i64 0, .int .i64 65535] from (k37_mkM _ _ _ (⟨65535, 0, 0, 65535⟩ : S37) )) (Reps.c4 (show Kd.M k37 _ _ _ (⟨0, 0, 0, 65535⟩ : S37) [.int .i64 0, .int .i64 0, .int .i64 0, .int .i64 65535] from (k37_mkM _ _ _ (⟨0, 0, 0, 65535⟩ : S37) )) (Reps.c4 (show Kd.M k37 _ _ _ (⟨0, 0, 0, 65535⟩ : S37) [.int .i64 0, .int .i64 0, .int .i64 0, .int .i64 65535] from (k37_mkM _ _ _ (⟨0, 0, 0, 65535⟩ : S37) )) (Reps.none _ _)))))))))); intro v410 w64 ho65 hb hg_ hnew_; clear hg_ hnew_; (first | rw [← Ny409.out] at ho65 | (simp only [Int.reduceToNat] at ho65; rw [← Ny409.out] at ho65)); have n0_ := Aside0.mk (Kd.R_below (by exact zro E6 E5 (by decide)) hb); have n1_ := Aside0.mk (Kd.R_below (by exact zro HO406 E5 (by decide)) hb); have n2_ := Aside0.mk (Kd.R_lower (Kd.R_newB (Kd.R_newB (Kd.R_newB ho65 (zf E4 J0)) (zf E3 J1)) (zf E1 V7)) (below_size (by exact zbo HB Y6))); have n3_ := Aside0.mk (blk_below (g := V6) (o := .cells #[.int .i64 t402, .int .i64 t403, .slice Ao58 t404.length co58] 24 (0, 0)) (by exact zp E5 rfl) hb); have n4_ := Aside0.mk (below_step (by exact zbo HB Y6) hb); replace E4 := zfk E4 J0 hb; replace E3 := zfk E3 J1 hb; replace E2 := zfk E2 J2 hb; replace E1 := zfk E1 V7 hb; clear E6; clear HO406; clear E5; clear HB; have E6 := n0_; have HO406 := n1_; have HO411 := n2_; have E5 := n3_; have HB := n4_; clear n0_ n1_ n2_ n3_ n4_; clear hb ho65; obtain ⟨Ao66, co66, eo66⟩ := Kd.R_slice HO411.out; subst eo66) | (go_at_call 14; (with_reducible refine (imageeditorlaw14_same.calls kj0 t402 t403 _ _ t404 4 2 _ _ y409 t412 _ ?side1 ?side2 ?side3 ?side4 A60.out).mono ?_); (case side1 => repeat (first | exact (Kd.R_reads' HO406.out).2.2 | (with_reducible refine Kd.C_alloc ?_ _) | (with_reducible refine Kd.C_drewN ?_ _) | (with_reducible refine Kd.C_drew ?_))); (case side2 => exact (Kd.R_reads' HO406.out).2.1); (case side3 => repeat (first | exact (Kd.R_reads' HO411.out).2.2 | (with_reducible refine Kd.C_alloc ?_ _) | (with_reducible refine Kd.C_drewN ?_ _) | (with_reducible refine Kd.C_drew ?_))); (case side4 => exact (Kd.R_reads' HO411.out).2.1); rintro e w67 ⟨rfl, hb⟩; replace E6 := zr E6 hb; replace HO406 := zr HO406 hb; replace HO411 := zr HO411 hb; replace E4 := zk E4 hb; replace E3 := zk E3 hb; replace E2 := zk E2 hb; replace E1 := zk E1 hb; replace E5 := zk E5 hb; replace HB := zb HB hb; (try clear hb); (try clear hk)))
    go_meet
    case rel => exact ⟨_, (!t412), (by first | rfl | (simp; done) | (simp [*]; done)), H', ⟨by have := HJ0.out; first | omega | exact Nat.le_refl _⟩, ⟨by exact zr0 E6⟩, ⟨by (with_reducible repeat (first | apply Kd.R_alloc | apply Kd.R_drewN | apply Kd.R_drew)); exact Kd.R_mono HO406.out (fun _ hk => ⟨hk.1.1.2, ⟨hk.1.2, hk.2⟩⟩)⟩, ⟨by exact zk0 E4⟩, ⟨by exact zk0 E3⟩, ⟨by exact zk0 E2⟩, ⟨by exact zk0 E1⟩, ⟨by exact zk0 E5⟩, ⟨by exact zb0 HB⟩⟩
   case rest =>
    clear HC46
    try clear c1
    try clear c2
    try clear p2
    try clear c3
    try clear q3
    try clear c4
    try clear q4
    try clear c5
    try clear c9
    try clear c17
    try clear c25
    try clear Z8
    try clear c31
    try clear Z9
    try clear c44
    try clear c47
    try clear c48
    try clear c49
    try clear c53
    try clear c54
    try clear c55
    try clear c56
    try clear c59
    try clear V8
    try clear J6
    try clear L3
    try clear L4
    try clear L5
    try clear Q1
    try clear Q2
    try clear Q3
    try clear Q7
    try clear Q8
    try clear Q9
    try clear E0d
    try clear E0e
    try clear E0f
    try clear E0g
    try clear E0l
    try clear E0m
    try clear E0n
    try clear E0o
    try clear L6
    try clear L7
    try clear L8
    try clear Q4
    try clear Q5
    try clear Q6
    try clear E0a
    try clear E0b
    try clear E0c
    try clear E0h
    try clear E0i
    try clear E0j
    try clear E0k
    try clear E0p
    try clear E0q
    try clear E0r
    try clear E0s
    try clear p2
    obtain ⟨kq, x60_45, rfl, HA, HJ45, E6, G0, E4, E3, E2, E1, E5, HB⟩ := hcut
    cases kq with
    | zero => exact absurd HA.out (by simp [imageeditorlaw14_awake.j1])
    | succ kj45 =>
     have H := HA.out
     clear HA
     simp only [imageeditorlaw14_awake.j1] at H
     by_cases c68 : x60_45 = true
     ·subst c68
      rw [if_pos rfl] at H
      exact absurd HT.out (by rw [← Option.some.inj H]; decide)
     replace c68 := Bool.eq_false_iff.mpr c68
     subst c68
     rw [if_neg (show ¬ (false = true) by decide)] at H
     replace H := Option.bind_eq_some_iff.mp H
     obtain ⟨⟨t413, t414, t415, t416, t417⟩, A690, H⟩ := H
     try dsimp only at H
     have A69 := Aside0.mk A690
     clear A690
     have HC70 := Aside0.mk H
     clear H
     have n_ := Aside0.mk (Kd.R_mono (ok' := fun k_ => k_ ≠ E0) E6.out (fun k_ hk_ => hk_.2.2))
     clear E6
     have E6 := n_
     clear n_
     have n_ := Aside0.mk (Kd.R_mono (ok' := fun k_ => k_ ≠ E0) G0.out (fun k_ hk_ => hk_.2.2))
     clear G0
     have G0 := n_
     clear n_
     (try clear E4)
     (try clear E3)
     go_upto_region 10 with (first | ((with_reducible refine gate_callee (f := 22) rfl ?_); refine goesL_ (some 64) rfl rfl Try.func22 (by kernel_rfl) rfl #[.agg #[.int .i64 65536, .int .i64 0, .int .i64 0, .int .i64 65536, .int .i64 0, .int .i64 0], .int .i64 1, .agg #[.int .i64 0, .int .i64 0, .int .i64 4, .int .i64 4]] rfl (by (try simp only [List.map_toArray, List.map_cons, List.map_nil]); first | done | rfl | (simp only [List.length_drop, List.length_take]; rfl)) ?_; (with_reducible refine (sample_Needs.calls kj45 65536 0 0 65536 0 0 1 0 0 4 4 t413 t414 t415 t416 t417 _ A69.out).mono ?_); rintro e w71 ⟨rfl, hb⟩; refine ⟨_, rfl, ?_⟩; replace E6 := zr E6 hb; replace G0 := zr G0 hb; replace E2 := zk E2 hb; replace E1 := zk E1 hb; replace E5 := zk E5 hb; replace HB := zb HB hb; (try clear hb); (try clear hb2); (try clear hk); (try clear hi)) | ((with_reducible refine gate_dst (N := 7) rfl ?_); (try (refine gate_guard (by rfl) ?_; dsimp only)); refine box_event ?hg (N := 7) ?hd (cs := #[.int .i64 0, .int .i64 0, .int .i64 0, .int .i64 0]) (t := 27) ?hr ?_; (case hd => rfl); (case hg => rfl); (case hr => first | (go_simp; done) | (go_simp; rfl)); intro E0A hg w72 hbox hb; have E2e := zg HB hg; have E0t := zg HB hg; have J3 := zn E2 hg; have E0u := zn' E2 hg; have J7 := zn E1 hg; have E0B := zn' E1 hg; have J8 := zn E5 hg; have E0C := zn' E5 hg; have n0_ := Aside0.mk (hbox); replace E6 := zr E6 hb; replace G0 := zr G0 hb; replace E2 := zk E2 hb; replace E1 := zk E1 hb; replace E5 := zk E5 hb; replace HB := zb HB hb; have G5 := n0_; clear n0_; clear hb hbox hg; have E2f := E0u.out; have E2g := J3.out; have E2h := E0B.out; have E2i := J7.out; have E2j := E0C.out; have E2k := J8.out; obtain ⟨E0D, E0E, E0F, E0G, E0H, E0I, E0J, E0K⟩ := zq4 G5))
     (try simp only [Act.put, sA, sB, sC])
     go_cut [73] (fun v73 wc => ∃ (kq : Nat) (x73_69 : Bool), v73 = .bool x73_69 ∧ Aside0 (imageeditorlaw14_awake.j2 kq x73_69 2 1 y381 32768 0 0 65535 = some r) ∧ Aside0 (kq ≤ kj45) ∧ Aside0 (Kd.R k37 37 wc w.heap.size (fun k_ => k_ ≠ E0) (.slice Ao9 y381.length co9) y381) ∧ Aside0 (Kd.R k37 37 wc w.heap.size (fun k_ => k_ ≠ E0) (.slice Ao58 t404.length co58) t404) ∧ Aside0 (wc.heap[E8]? = some (.cells #[.int .i64 2, .int .i64 1, (.slice Ao9 y381.length co9)] 24 (0, 0))) ∧ Aside0 (wc.heap[E0]? = some (.cells #[.int .i64 32768, .int .i64 0, .int .i64 0, .int .i64 65535] 37 (0, 0))) ∧ Aside0 (wc.heap[V6]? = some (.cells #[.int .i64 t402, .int .i64 t403, (.slice Ao58 t404.length co58)] 24 (0, 0))) ∧ Aside0 (wc.heap[E0A]? = some (.cells #[.int .i64 t413, .int .i64 t414, .int .i64 t415, .int .i64 t416] 27 (0, 0))) ∧ Aside0 (Below w.heap.size w wc))
     case first =>
      have H := HC70.out
      clear HC70
      by_cases c77 : t417 = 0
      ·rw [if_pos c77] at H
       have V9 : (t417 == 0) = true := beq_iff_eq.mpr c77
       have E0v : (t417 != 0) = false := bne_eq_false_iff_eq.mpr c77
       clear c77
       (first | rw [V9] | (simp only [i64_w, i32_w]; rw [V9]) | skip)
       have H' := Aside0.mk H
       clear H
       obtain ⟨E0L, E0M, E0N, E0O, E0P, E0Q, E0R, E0S⟩ := zq4 G5
       go_wp2
       go_meet
       case rel => exact ⟨_, ((!(t413 == (-2)) || (!(t414 == (-2)) || (!(t415 == 8) || (!(t416 == 8)))))), (by first | rfl | (simp; done) | (simp [*]; done)), H', ⟨by have := HJ0.out; have := HJ45.out; first | omega | exact Nat.le_refl _⟩, ⟨by exact zro E6 G5 (by decide)⟩, ⟨by exact zro G0 G5 (by decide)⟩, ⟨by exact zf E2 J3⟩, ⟨by exact zf E1 J7⟩, ⟨by exact zf E5 J8⟩, ⟨by exact zp G5 rfl⟩, ⟨by exact zbo HB E0t⟩⟩
      rw [if_neg c77] at H
      have V9 : (t417 == 0) = false := beq_eq_false_iff_ne.mpr c77
      have E0v : (t417 != 0) = true := bne_iff_ne.mpr c77
      (first | rw [V9] | (simp only [i64_w, i32_w]; rw [V9]) | skip)
      have H' := Aside0.mk H
      clear H
      go_wp2
      go_meet
      case rel => exact ⟨_, (true), (by first | rfl | (simp; done) | (simp [*]; done)), H', ⟨by have := HJ0.out; have := HJ45.out; first | omega | exact Nat.le_refl _⟩, ⟨by exact zro E6 G5 (by decide)⟩, ⟨by exact zro G0 G5 (by decide)⟩, ⟨by exact zf E2 J3⟩, ⟨by exact zf E1 J7⟩, ⟨by exact zf E5 J8⟩, ⟨by exact zp G5 rfl⟩, ⟨by exact zbo HB E0t⟩⟩
     case rest =>
      clear HC70
      try clear c1
      try clear c2
      try clear p2
      try clear c3
      try clear q3
      try clear c4
      try clear q4
      try clear c5
      try clear c6
      try clear c7
      try clear c9
      try clear c17
      try clear c22
      try clear c25
      try clear Z8
      try clear c31
      try clear Z9
      try clear c44
      try clear c47
      try clear c48
      try clear c49
      try clear c53
      try clear c54
      try clear c55
      try clear c56
      try clear c59
      try clear V8
      try clear J6
      try clear c68
      try clear c73
      try clear c74
      try clear c75
      try clear c77
      try clear V9
      try clear E0v
      try clear L3
      try clear L4
      try clear L5
      try clear Q1
      try clear Q2
      try clear Q3
      try clear Q7
      try clear Q8
      try clear Q9
      try clear E0d
      try clear E0e
      try clear E0f
      try clear E0g
      try clear E0l
      try clear E0m
      try clear E0n
      try clear E0o
      try clear E0D
      try clear E0E
      try clear E0F
      try clear E0G
      try clear E0L
      try clear E0M
      try clear E0N
      try clear E0O
      try clear L6
      try clear L7
      try clear L8
      try clear Q4
      try clear Q5
      try clear Q6
      try clear E0a
      try clear E0b
      try clear E0c
      try clear E0h
      try clear E0i
      try clear E0j
      try clear E0k
      try clear E0p
      try clear E0q
      try clear E0r
      try clear E0s
      try clear E0H
      try clear E0I
      try clear E0J
      try clear E0K
      try clear E0P
      try clear E0Q
      try clear E0R
      try clear E0S
      try clear p2
      try clear q3
      try clear q4
      obtain ⟨kq, x73_69, rfl, HA, HJ69, E6, G0, E2, E1, E5, G5, HB⟩ := hcut
      cases kq with
      | zero => exact absurd HA.out (by simp [imageeditorlaw14_awake.j2])
      | succ kj69 =>
       have H := HA.out
       clear HA
       simp only [imageeditorlaw14_awake.j2] at H
       by_cases c79 : x73_69 = true
       ·subst c79
        rw [if_pos rfl] at H
        exact absurd HT.out (by rw [← Option.some.inj H]; decide)
       replace c79 := Bool.eq_false_iff.mpr c79
       subst c79
       rw [if_neg (show ¬ (false = true) by decide)] at H
       replace H := Option.bind_eq_some_iff.mp H
       obtain ⟨⟨t419, t420, t421, t424⟩, A800, H⟩ := H
       try dsimp only at H
       have A80 := Aside0.mk A800
       clear A800
       by_cases c81 : t424 = 0
       rotate_left
       ·rw [if_neg c81] at H
        have E0T : (t424 == 0) = false := beq_eq_false_iff_ne.mpr c81
        have E0U : (t424 != 0) = true := bne_iff_ne.mpr c81
        exact absurd HT.out (by rw [← Option.some.inj H]; decide)
       rw [if_pos c81] at H
       have E0T : (t424 == 0) = true := beq_iff_eq.mpr c81
       have E0U : (t424 != 0) = false := bne_eq_false_iff_eq.mpr c81
       clear c81
       obtain ⟨y425, hy425⟩ : ∃ y_ : List (S37), y_ = (([(⟨32768, 0, 0, 65535⟩ : S37)] : List (S37))) := ⟨_, rfl⟩
       replace H : ((imageeditorlaw14_same.f kj69 t419 t420 t421 1 1 y425).bind fun t428 => (some t428)) = some r := by first | (rw [hy425]; with_reducible exact H) | (have H2_ := (Option.bind_some _ _).symm.trans H; rw [hy425]; with_reducible exact H2_) | (have H2_ := (Option.bind_some _ _).symm.trans H; with_reducible exact H2_) | with_reducible exact H | (rw [hy425]; exact H) | exact H
       have Ny425 := Aside0.mk hy425
       clear hy425
       replace H := Option.bind_eq_some_iff.mp H
       obtain ⟨t428, A820, H⟩ := H
       try dsimp only at H
       have A82 := Aside0.mk A820
       clear A820
       obtain rfl := Option.some.inj H
       have E2l := V5.out
       have E2m := J5.out
       have E2n := J2.out
       have E2o := L9.out
       have E2p := J3.out
       have E2q := E0u.out
       obtain ⟨E2r, E2s, E2t, E2u, E2v, E2w⟩ := zq3 E2
       (try clear E2)
       (try clear G5)
       go_wp2_with (first | ((with_reducible refine gate_callee (f := 19) rfl ?_); refine goesL_ (some 76) rfl rfl Try.func19 (by kernel_rfl) rfl #[.agg #[.int .i64 2, .int .i64 1, .slice Ao9 y381.length co9], .int .i64 1, .int .i64 1, .int .i64 1] rfl (by (try simp only [List.map_toArray, List.map_cons, List.map_nil]); first | done | rfl | (simp only [List.length_drop, List.length_take]; rfl)) ?_; (with_reducible refine (sample_Resize.calls kj69 2 1 _ _ y381 1 1 1 t419 t420 t421 t424 _ ?side1 ?side2 A80.out).mono ?_); (case side1 => repeat (first | exact (Kd.R_reads' E6.out).2.2 | (with_reducible refine Kd.C_alloc ?_ _) | (with_reducible refine Kd.C_drewN ?_ _) | (with_reducible refine Kd.C_drew ?_))); (case side2 => exact (Kd.R_reads' E6.out).2.1); rintro e w87 ⟨v422, rfl, ho0, hb⟩; refine ⟨_, rfl, ?_⟩; have n0_ := Aside0.mk (Kd.R_lower (Kd.R_newB ho0 (zk0 E1)) (below_size (by exact zb0 HB))); replace E6 := zr E6 hb; replace G0 := zr G0 hb; replace E1 := zk E1 hb; replace E5 := zk E5 hb; replace HB := zb HB hb; have HO423 := n0_; clear n0_; (try clear hb); (try clear hk); (try clear ho0); have E2x := Q0.out; have E2y := V7.out; obtain ⟨E2z, E2A, E2B, E2C, E2D, E2E⟩ := zq3 E5; obtain ⟨Ao90, co90, eo90⟩ := Kd.R_slice HO423.out; subst eo90; obtain ⟨E2F, E2G, E2H, E2I, E2J, E2K, E2L, E2M⟩ := zq4 E1) | ((with_reducible refine gate_dst (N := 84) rfl ?_); (try (refine gate_guard (by rfl) ?_; dsimp only)); refine Kd.R_lit k37 _ 37 ?hg (N := 84) ?hd (xs := ([(⟨32768, 0, 0, 65535⟩ : S37)] : List (S37))) (inner := [.int .i64 32768, .int .i64 0, .int .i64 0, .int .i64 65535]) (ok := fun _ => True) (okp := fun _ => True) ?hr ?hp (fun _ hk => hk) trivial (Below.refl _ _) (Nat.le_refl _) (by simp) ?_; (case hd => rfl); (case hg => rfl); (case hr => first | (go_simp; done) | (go_simp; rfl)); (case hp => exact (Reps.c4 (show Kd.M k37 _ _ _ (⟨32768, 0, 0, 65535⟩ : S37) [.int .i64 32768, .int .i64 0, .int .i64 0, .int .i64 65535] from (k37_mkM _ _ _ (⟨32768, 0, 0, 65535⟩ : S37) )) (Reps.none _ _))); intro v426 w92 ho93 hb hg_ hnew_; clear hg_ hnew_; (first | rw [← Ny425.out] at ho93 | (simp only [Int.reduceToNat] at ho93; rw [← Ny425.out] at ho93)); have n0_ := Aside0.mk (Kd.R_below (by exact zro E6 E5 (by decide)) hb); have n1_ := Aside0.mk (Kd.R_below (by exact zro G0 E5 (by decide)) hb); have n2_ := Aside0.mk (Kd.R_below (by exact zro HO423 E5 (by decide)) hb); have n3_ := Aside0.mk (Kd.R_lower (Kd.R_newB ho93 (zf E1 V7)) (below_size (by exact zbo HB Y6))); have n4_ := Aside0.mk (blk_below (g := V6) (o := .cells #[.int .i64 t419, .int .i64 t420, .slice Ao90 t421.length co90] 24 (0, 0)) (by exact zp E5 rfl) hb); have n5_ := Aside0.mk (below_step (by exact zbo HB Y6) hb); replace E1 := zfk E1 V7 hb; clear E6; clear G0; clear HO423; clear E5; clear HB; have E6 := n0_; have G0 := n1_; have HO423 := n2_; have HO427 := n3_; have E5 := n4_; have HB := n5_; clear n0_ n1_ n2_ n3_ n4_ n5_; clear hb ho93; obtain ⟨Ao94, co94, eo94⟩ := Kd.R_slice HO427.out; subst eo94; (try clear E6); (try clear G0); (try clear E1); (try clear E5); have n_ := Aside0.mk (Kd.R_mono (ok' := fun k_ => True) HO423.out (fun k_ hk_ => trivial)); clear HO423; have HO423 := n_; clear n_; have n_ := Aside0.mk (Kd.R_mono (ok' := fun k_ => True) HO427.out (fun k_ hk_ => trivial)); clear HO427; have HO427 := n_; clear n_) | (go_at_call 14; (with_reducible refine (imageeditorlaw14_same.calls kj69 t419 t420 _ _ t421 1 1 _ _ y425 t428 _ ?side1 ?side2 ?side3 ?side4 A82.out).mono ?_); (case side1 => repeat (first | exact (Kd.R_reads' HO423.out).2.2 | (with_reducible refine Kd.C_alloc ?_ _) | (with_reducible refine Kd.C_drewN ?_ _) | (with_reducible refine Kd.C_drew ?_))); (case side2 => exact (Kd.R_reads' HO423.out).2.1); (case side3 => repeat (first | exact (Kd.R_reads' HO427.out).2.2 | (with_reducible refine Kd.C_alloc ?_ _) | (with_reducible refine Kd.C_drewN ?_ _) | (with_reducible refine Kd.C_drew ?_))); (case side4 => exact (Kd.R_reads' HO427.out).2.1); rintro e w95 ⟨rfl, hb⟩; replace HO423 := zr HO423 hb; replace HO427 := zr HO427 hb; replace HB := zb HB hb; (try clear hb); (try clear hk)))
       go_ret
       exact ⟨by first | rfl | (simp [errW_none, errW_some] <;> rfl) | (simp [*, errW_none, errW_some] <;> rfl), by exact zb0 HB⟩
set_option maxRecDepth 100000 in
theorem imageeditorlaw14_awake.known : imageeditorlaw14_awake.f 300 = some true := by decide +kernel
theorem imageeditorlaw14_awake.more (k : Nat) (r : Bool) (h : imageeditorlaw14_awake.f k = some r) : ∀ m, imageeditorlaw14_awake.f (k + m) = some r
 | 0 => h
 | m + 1 => imageeditorlaw14_awake.mono (k + m) r (imageeditorlaw14_awake.more k r h m)
theorem imageeditorlaw14_awake.det (k : Nat) (r : Bool) (h : imageeditorlaw14_awake.f k = some r) : r = true := by
 have h1 := imageeditorlaw14_awake.more k r h 300
 have h2 := imageeditorlaw14_awake.more 300 true imageeditorlaw14_awake.known k
 rw [Nat.add_comm] at h1
 exact Option.some.inj (h1.symm.trans h2)
theorem imageeditorlaw14_awake.calls (k : Nat) (r : Bool) (w : World) (h : imageeditorlaw14_awake.f k = some r) :
  Calls Try.prog 10 #[] w fun e w' => e = .returned (.bool r) ∧ Below w.heap.size w w' :=
 imageeditorlaw14_awake.callsT k r w (imageeditorlaw14_awake.det k r h) h

end Go.Proofs.Ytapdifpmijgkcaa.G
