/- Contracts of functions of the program, each as it is called: what it computes (.f), that it computes no less with more rounds (.mono), and that a call returns just that (.calls). No conditions but those that each contract names. Written by a program of this session (wip/gx.py over the kit's print). -/
import Derived.Test.YtmmncannibnklaaG0
import Derived.Test.YtmmncannibnklaaG3
import Derived.Test.YtmmncannibnklaaG8
import Derived.Test.YtmmncannibnklaaG9
import Derived.Test.YtmmncannibnklaaG10
namespace Go.Proofs.Ytmmncannibnklaa.G
open Go.RowKit Go.Proofs.YtmmncannibnklaaW.PrintWords Go.Proofs.YtmmncannibnklaaW.PrintLast Go.Proofs.YtmmncannibnklaaW.PrintMore
attribute [local go_sem] max2_int min2_int max_two min_two max_three min_three max_four min_four   -- for this text's walks alone
set_option linter.unusedVariables false
set_option linter.unusedSimpArgs false


/-! ### imageeditorlaw24_awake: function 12 -/
def imageeditorlaw24_awake.f (k : Nat)  : Option (Bool) := (imageeditorlaw24_reds.f k 3 (([0, 5, 0] : List Int))).bind fun bt355 => ((imageeditorlaw24_reds.f k 2 (([0, 9, 9, 0] : List Int))).bind fun bt363 => ((wand_Flood.f k bt355.1 bt355.2.1 bt355.2.2 0 0 4 false).bind fun bt370 => ((wand_Flood.f k bt355.1 bt355.2.1 bt355.2.2 0 0 5 false).bind fun bt377 => ((wand_Flood.f k bt363.1 bt363.2.1 bt363.2.2 0 0 0 true).bind fun bt384 => ((wand_Similar.f k bt355.1 bt355.2.1 bt355.2.2 0 0 0 0 4).bind fun bt391 => ((wand_Soft.f k bt355.1 bt355.2.1 bt355.2.2 0 0 0 0 0 10).bind fun bt398 => ((wand_Opaque.f k bt355.1 bt355.2.1 bt355.2.2).bind fun bt405 => ((wand_Soft.f k bt355.1 bt355.2.1 bt355.2.2 0 0 0 0 5 5).bind fun bt412 => ((wand_Flood.f k 0 0 ([] : List (S37)) 0 0 0 false).bind fun bt419 => ((wand_Similar.f k 0 0 ([] : List (S37)) 0 0 0 0 0).bind fun bt426 => ((imageeditorlaw24_values.f 3 (([65535, 0, 0] : List Int))).bind fun bt436 => ((imageeditorlaw24_same.f k bt370.1 bt370.2.1 bt370.2.2.1 bt436.1 bt436.2.1 bt436.2.2).bind fun t441 => (if t441 = true then (if bt370.2.2.2 = 0 then ((imageeditorlaw24_values.f 3 (([65535, 65535, 65535] : List Int))).bind fun bt445 => ((imageeditorlaw24_same.f k bt377.1 bt377.2.1 bt377.2.2.1 bt445.1 bt445.2.1 bt445.2.2).bind fun t450 => (if t450 = true then (if bt377.2.2.2 = 0 then ((imageeditorlaw24_values.f 2 (([65535, 0, 0, 65535] : List Int))).bind fun bt454 => ((imageeditorlaw24_same.f k bt384.1 bt384.2.1 bt384.2.2.1 bt454.1 bt454.2.1 bt454.2.2).bind fun t459 => (if t459 = true then (if bt384.2.2.2 = 0 then ((imageeditorlaw24_values.f 3 (([65535, 0, 65535] : List Int))).bind fun bt463 => ((imageeditorlaw24_same.f k bt391.1 bt391.2.1 bt391.2.2.1 bt463.1 bt463.2.1 bt463.2.2).bind fun t468 => (if t468 = true then (if bt391.2.2.2 = 0 then ((imageeditorlaw24_values.f 3 (([65535, 32768, 65535] : List Int))).bind fun bt472 => ((imageeditorlaw24_same.f k bt398.1 bt398.2.1 bt398.2.2.1 bt472.1 bt472.2.1 bt472.2.2).bind fun t477 => (if t477 = true then (if bt398.2.2.2 = 0 then ((imageeditorlaw24_values.f 3 (([0, 0, 0] : List Int))).bind fun bt481 => ((imageeditorlaw24_same.f k bt405.1 bt405.2.1 bt405.2.2.1 bt481.1 bt481.2.1 bt481.2.2).bind fun t486 => (if t486 = true then (if bt405.2.2.2 = 0 then (if bt412.2.2.2 = 24 then (if bt419.2.2.2 = 2 then (some (bt426.2.2.2 == 0)) else (some false)) else (some false)) else (some false)) else (some false)))) else (some false)) else (some false)))) else (some false)) else (some false)))) else (some false)) else (some false)))) else (some false)) else (some false)))) else (some false)) else (some false))))))))))))))
theorem imageeditorlaw24_awake.mono : ∀ k, LeO (imageeditorlaw24_awake.f k ) (imageeditorlaw24_awake.f (k + 1) ) := by
 intro  k
 unfold imageeditorlaw24_awake.f
 repeat' first
   | (with_reducible exact imageeditorlaw24_reds.mono _ _ _)
   | (with_reducible exact imageeditorlaw24_same.mono _ _ _ _ _ _ _)
   | (with_reducible exact wand_Flood.mono _ _ _ _ _ _ _ _)
   | (with_reducible exact wand_Opaque.mono _ _ _ _)
   | (with_reducible exact wand_Similar.mono _ _ _ _ _ _ _ _ _)
   | (with_reducible exact wand_Soft.mono _ _ _ _ _ _ _ _ _ _)
   | (with_reducible exact LeO.refl _)
   | (with_reducible exact LeO.none _)
   | (with_reducible refine LeO.ite ?_ ?_)
   | (with_reducible refine LeO.bind ?_ (fun _ => ?_))
   | exact imageeditorlaw24_reds.mono _ _ _
   | exact imageeditorlaw24_same.mono _ _ _ _ _ _ _
   | exact wand_Flood.mono _ _ _ _ _ _ _ _
   | exact wand_Opaque.mono _ _ _ _
   | exact wand_Similar.mono _ _ _ _ _ _ _ _ _
   | exact wand_Soft.mono _ _ _ _ _ _ _ _ _ _
   | exact LeO.none _
   | refine LeO.ite ?_ ?_
   | refine LeO.bind ?_ (fun _ => ?_)
def imageeditorlaw24_awake.T12 : Bool × List (List Nat × List Nat) := (true, [([], []), ([], []), ([1], [1]), ([2], [2]), ([0, 3, 3], [0, 3]), ([4, 4], [4]), ([5], [5]), ([6, 5], [5, 6]), ([5, 7], [5, 7]), ([8, 5], [8]), ([9], [9]), ([9], [9]), ([9], [9]), ([9], [9]), ([11, 12, 13, 9], [9, 11, 12, 13]), ([14, 9, 9], [9, 14]), ([10, 15, 15, 9], [9, 10, 15]), ([9, 16], [9, 16]), ([17, 16], [17]), ([18], [18]), ([19, 18], [18, 19]), ([18, 20], [18, 20]), ([21, 18], [21]), ([22], [22]), ([22], [22]), ([22], [22]), ([24, 25, 22], [22, 24, 25]), ([26, 22, 22], [22, 26]), ([23, 27, 27, 22], [22, 23, 27]), ([22, 28], [22, 28]), ([29, 28], [29]), ([30], [30]), ([31, 30], [30, 31]), ([30, 32], [30, 32]), ([33, 30], [33]), ([34], [34]), ([34], [34]), ([34], [34]), ([36, 37, 34], [34, 36, 37]), ([38, 34, 34], [34, 38]), ([35, 39, 39, 34], [34, 35, 39]), ([34, 40], [34, 40]), ([41, 40], [41]), ([42], [42]), ([43, 42], [42, 43]), ([42, 44], [42, 44]), ([45, 42], [45]), ([46], [46]), ([46], [46]), ([46], [46]), ([48, 49, 46], [46, 48, 49]), ([50, 46, 46], [46, 50]), ([47, 51, 51, 46], [46, 47, 51]), ([46, 52], [46, 52]), ([53, 52], [53]), ([54], [54]), ([55, 54], [54, 55]), ([54, 56], [54, 56]), ([57, 54], [57]), ([58], [58]), ([58], [58]), ([60, 58, 58], [58, 60]), ([59, 61, 61, 58], [58, 59, 61]), ([58, 62], [58, 62]), ([63, 62], [63]), ([64], [64]), ([65, 64], [64, 65]), ([64, 66], [64, 66]), ([67, 64], [67]), ([68], [68]), ([69, 68], [68, 69]), ([68, 70], [68, 70]), ([71, 68], [71]), ([72], [72]), ([73, 72], [72, 73]), ([72, 74], [72, 74]), ([75, 72], [75]), ([76], [76]), ([77, 76], [76, 77]), ([76, 78], [76, 78]), ([79, 76, 0, 1, 2, 3, 4, 5, 6, 7, 8, 9, 10, 11, 12, 13, 14, 15, 16, 17, 18, 19, 20, 21, 22, 23, 24, 25, 26, 27, 28, 29, 30, 31, 32, 33, 34, 35, 36, 37, 38, 39, 40, 41, 42, 43, 44, 45, 46, 47, 48, 49, 50, 51, 52, 53, 54, 55, 56, 57, 58, 59, 60, 61, 62, 63, 64, 65, 66, 67, 68, 69, 70, 71, 72, 73, 74, 75, 76, 77, 78, 79], [79])])
def imageeditorlaw24_awake.B12 : List Nat := [0, 0, 2, 6, 15, 31, 63, 127, 255, 511, 1023, 1023, 1023, 1023, 15359, 31743, 65535, 131071, 262143, 524287, 1048575, 2097151, 4194303, 8388607, 8388607, 8388607, 58720255, 125829119, 268435455, 536870911, 1073741823, 2147483647, 4294967295, 8589934591, 17179869183, 34359738367, 34359738367, 34359738367, 240518168575, 515396075519, 1099511627775, 2199023255551, 4398046511103, 8796093022207, 17592186044415, 35184372088831, 70368744177663, 140737488355327, 140737488355327, 140737488355327, 985162418487295, 2111062325329919, 4503599627370495, 9007199254740991, 18014398509481983, 36028797018963967, 72057594037927935, 144115188075855871, 288230376151711743, 576460752303423487, 576460752303423487, 1729382256910270463, 4611686018427387903, 9223372036854775807, 18446744073709551615, 36893488147419103231, 73786976294838206463, 147573952589676412927, 295147905179352825855, 590295810358705651711, 1180591620717411303423, 2361183241434822606847, 4722366482869645213695, 9444732965739290427391, 18889465931478580854783, 37778931862957161709567, 75557863725914323419135, 151115727451828646838271, 302231454903657293676543, 604462909807314587353087, 1208925819614629174706175]
theorem imageeditorlaw24_awake.tab12 : rtab .any (opsOf Try.f12 12) = imageeditorlaw24_awake.T12 := by kernel_rfl
theorem imageeditorlaw24_awake.bits12 : waitsOk imageeditorlaw24_awake.T12.2 imageeditorlaw24_awake.B12 = true := by kernel_rfl
set_option maxHeartbeats 8000000 in
set_option maxRecDepth 100000 in
theorem imageeditorlaw24_awake.callsT (k : Nat)  (r : Bool) (w : World) (hT : r = true) (h : imageeditorlaw24_awake.f k  = some r) :
  Calls Try.prog 12 #[] w fun e w' => e = .returned (.bool r) ∧ Below w.heap.size w w' := by
 have hu24 := Try.underlying24
 have hu26 := Try.underlying26
 have hu29 := Try.underlying29
 have hu37 := Try.underlying37
 have HT := Aside0.mk hT
 clear hT
 have HB := Aside0.mk (Below.refl w.heap.size w)
 have H : ((imageeditorlaw24_reds.f k 3 (([0, 5, 0] : List Int))).bind fun bt355 => ((imageeditorlaw24_reds.f k 2 (([0, 9, 9, 0] : List Int))).bind fun bt363 => ((wand_Flood.f k bt355.1 bt355.2.1 bt355.2.2 0 0 4 false).bind fun bt370 => ((wand_Flood.f k bt355.1 bt355.2.1 bt355.2.2 0 0 5 false).bind fun bt377 => ((wand_Flood.f k bt363.1 bt363.2.1 bt363.2.2 0 0 0 true).bind fun bt384 => ((wand_Similar.f k bt355.1 bt355.2.1 bt355.2.2 0 0 0 0 4).bind fun bt391 => ((wand_Soft.f k bt355.1 bt355.2.1 bt355.2.2 0 0 0 0 0 10).bind fun bt398 => ((wand_Opaque.f k bt355.1 bt355.2.1 bt355.2.2).bind fun bt405 => ((wand_Soft.f k bt355.1 bt355.2.1 bt355.2.2 0 0 0 0 5 5).bind fun bt412 => ((wand_Flood.f k 0 0 ([] : List (S37)) 0 0 0 false).bind fun bt419 => ((wand_Similar.f k 0 0 ([] : List (S37)) 0 0 0 0 0).bind fun bt426 => ((imageeditorlaw24_values.f 3 (([65535, 0, 0] : List Int))).bind fun bt436 => ((imageeditorlaw24_same.f k bt370.1 bt370.2.1 bt370.2.2.1 bt436.1 bt436.2.1 bt436.2.2).bind fun t441 => (if t441 = true then (if bt370.2.2.2 = 0 then ((imageeditorlaw24_values.f 3 (([65535, 65535, 65535] : List Int))).bind fun bt445 => ((imageeditorlaw24_same.f k bt377.1 bt377.2.1 bt377.2.2.1 bt445.1 bt445.2.1 bt445.2.2).bind fun t450 => (if t450 = true then (if bt377.2.2.2 = 0 then ((imageeditorlaw24_values.f 2 (([65535, 0, 0, 65535] : List Int))).bind fun bt454 => ((imageeditorlaw24_same.f k bt384.1 bt384.2.1 bt384.2.2.1 bt454.1 bt454.2.1 bt454.2.2).bind fun t459 => (if t459 = true then (if bt384.2.2.2 = 0 then ((imageeditorlaw24_values.f 3 (([65535, 0, 65535] : List Int))).bind fun bt463 => ((imageeditorlaw24_same.f k bt391.1 bt391.2.1 bt391.2.2.1 bt463.1 bt463.2.1 bt463.2.2).bind fun t468 => (if t468 = true then (if bt391.2.2.2 = 0 then ((imageeditorlaw24_values.f 3 (([65535, 32768, 65535] : List Int))).bind fun bt472 => ((imageeditorlaw24_same.f k bt398.1 bt398.2.1 bt398.2.2.1 bt472.1 bt472.2.1 bt472.2.2).bind fun t477 => (if t477 = true then (if bt398.2.2.2 = 0 then ((imageeditorlaw24_values.f 3 (([0, 0, 0] : List Int))).bind fun bt481 => ((imageeditorlaw24_same.f k bt405.1 bt405.2.1 bt405.2.2.1 bt481.1 bt481.2.1 bt481.2.2).bind fun t486 => (if t486 = true then (if bt405.2.2.2 = 0 then (if bt412.2.2.2 = 24 then (if bt419.2.2.2 = 2 then (some (bt426.2.2.2 == 0)) else (some false)) else (some false)) else (some false)) else (some false)))) else (some false)) else (some false)))) else (some false)) else (some false)))) else (some false)) else (some false)))) else (some false)) else (some false)))) else (some false)) else (some false))))))))))))))) = some r := h
 clear h
 obtain ⟨y352, hy352⟩ : ∃ y_ : List Int, y_ = (([0, 5, 0] : List Int)) := ⟨_, rfl⟩
 replace H : ((imageeditorlaw24_reds.f k 3 y352).bind fun bt355 => ((imageeditorlaw24_reds.f k 2 (([0, 9, 9, 0] : List Int))).bind fun bt363 => ((wand_Flood.f k bt355.1 bt355.2.1 bt355.2.2 0 0 4 false).bind fun bt370 => ((wand_Flood.f k bt355.1 bt355.2.1 bt355.2.2 0 0 5 false).bind fun bt377 => ((wand_Flood.f k bt363.1 bt363.2.1 bt363.2.2 0 0 0 true).bind fun bt384 => ((wand_Similar.f k bt355.1 bt355.2.1 bt355.2.2 0 0 0 0 4).bind fun bt391 => ((wand_Soft.f k bt355.1 bt355.2.1 bt355.2.2 0 0 0 0 0 10).bind fun bt398 => ((wand_Opaque.f k bt355.1 bt355.2.1 bt355.2.2).bind fun bt405 => ((wand_Soft.f k bt355.1 bt355.2.1 bt355.2.2 0 0 0 0 5 5).bind fun bt412 => ((wand_Flood.f k 0 0 ([] : List (S37)) 0 0 0 false).bind fun bt419 => ((wand_Similar.f k 0 0 ([] : List (S37)) 0 0 0 0 0).bind fun bt426 => ((imageeditorlaw24_values.f 3 (([65535, 0, 0] : List Int))).bind fun bt436 => ((imageeditorlaw24_same.f k bt370.1 bt370.2.1 bt370.2.2.1 bt436.1 bt436.2.1 bt436.2.2).bind fun t441 => (if t441 = true then (if bt370.2.2.2 = 0 then ((imageeditorlaw24_values.f 3 (([65535, 65535, 65535] : List Int))).bind fun bt445 => ((imageeditorlaw24_same.f k bt377.1 bt377.2.1 bt377.2.2.1 bt445.1 bt445.2.1 bt445.2.2).bind fun t450 => (if t450 = true then (if bt377.2.2.2 = 0 then ((imageeditorlaw24_values.f 2 (([65535, 0, 0, 65535] : List Int))).bind fun bt454 => ((imageeditorlaw24_same.f k bt384.1 bt384.2.1 bt384.2.2.1 bt454.1 bt454.2.1 bt454.2.2).bind fun t459 => (if t459 = true then (if bt384.2.2.2 = 0 then ((imageeditorlaw24_values.f 3 (([65535, 0, 65535] : List Int))).bind fun bt463 => ((imageeditorlaw24_same.f k bt391.1 bt391.2.1 bt391.2.2.1 bt463.1 bt463.2.1 bt463.2.2).bind fun t468 => (if t468 = true then (if bt391.2.2.2 = 0 then ((imageeditorlaw24_values.f 3 (([65535, 32768, 65535] : List Int))).bind fun bt472 => ((imageeditorlaw24_same.f k bt398.1 bt398.2.1 bt398.2.2.1 bt472.1 bt472.2.1 bt472.2.2).bind fun t477 => (if t477 = true then (if bt398.2.2.2 = 0 then ((imageeditorlaw24_values.f 3 (([0, 0, 0] : List Int))).bind fun bt481 => ((imageeditorlaw24_same.f k bt405.1 bt405.2.1 bt405.2.2.1 bt481.1 bt481.2.1 bt481.2.2).bind fun t486 => (if t486 = true then (if bt405.2.2.2 = 0 then (if bt412.2.2.2 = 24 then (if bt419.2.2.2 = 2 then (some (bt426.2.2.2 == 0)) else (some false)) else (some false)) else (some false)) else (some false)))) else (some false)) else (some false)))) else (some false)) else (some false)))) else (some false)) else (some false)))) else (some false)) else (some false)))) else (some false)) else (some false))))))))))))))) = some r := by first | (rw [hy352]; with_reducible exact H) | (have H2_ := (Option.bind_some _ _).symm.trans H; rw [hy352]; with_reducible exact H2_) | (have H2_ := (Option.bind_some _ _).symm.trans H; with_reducible exact H2_) | with_reducible exact H | (rw [hy352]; exact H) | exact H
 have Ny352 := Aside0.mk hy352
 clear hy352
 replace H := Option.bind_eq_some_iff.mp H
 obtain ⟨⟨t355, t356, t357⟩, A10, H⟩ := H
 replace H : ((imageeditorlaw24_reds.f k 2 (([0, 9, 9, 0] : List Int))).bind fun bt363 => ((wand_Flood.f k t355 t356 t357 0 0 4 false).bind fun bt370 => ((wand_Flood.f k t355 t356 t357 0 0 5 false).bind fun bt377 => ((wand_Flood.f k bt363.1 bt363.2.1 bt363.2.2 0 0 0 true).bind fun bt384 => ((wand_Similar.f k t355 t356 t357 0 0 0 0 4).bind fun bt391 => ((wand_Soft.f k t355 t356 t357 0 0 0 0 0 10).bind fun bt398 => ((wand_Opaque.f k t355 t356 t357).bind fun bt405 => ((wand_Soft.f k t355 t356 t357 0 0 0 0 5 5).bind fun bt412 => ((wand_Flood.f k 0 0 ([] : List (S37)) 0 0 0 false).bind fun bt419 => ((wand_Similar.f k 0 0 ([] : List (S37)) 0 0 0 0 0).bind fun bt426 => ((imageeditorlaw24_values.f 3 (([65535, 0, 0] : List Int))).bind fun bt436 => ((imageeditorlaw24_same.f k bt370.1 bt370.2.1 bt370.2.2.1 bt436.1 bt436.2.1 bt436.2.2).bind fun t441 => (if t441 = true then (if bt370.2.2.2 = 0 then ((imageeditorlaw24_values.f 3 (([65535, 65535, 65535] : List Int))).bind fun bt445 => ((imageeditorlaw24_same.f k bt377.1 bt377.2.1 bt377.2.2.1 bt445.1 bt445.2.1 bt445.2.2).bind fun t450 => (if t450 = true then (if bt377.2.2.2 = 0 then ((imageeditorlaw24_values.f 2 (([65535, 0, 0, 65535] : List Int))).bind fun bt454 => ((imageeditorlaw24_same.f k bt384.1 bt384.2.1 bt384.2.2.1 bt454.1 bt454.2.1 bt454.2.2).bind fun t459 => (if t459 = true then (if bt384.2.2.2 = 0 then ((imageeditorlaw24_values.f 3 (([65535, 0, 65535] : List Int))).bind fun bt463 => ((imageeditorlaw24_same.f k bt391.1 bt391.2.1 bt391.2.2.1 bt463.1 bt463.2.1 bt463.2.2).bind fun t468 => (if t468 = true then (if bt391.2.2.2 = 0 then ((imageeditorlaw24_values.f 3 (([65535, 32768, 65535] : List Int))).bind fun bt472 => ((imageeditorlaw24_same.f k bt398.1 bt398.2.1 bt398.2.2.1 bt472.1 bt472.2.1 bt472.2.2).bind fun t477 => (if t477 = true then (if bt398.2.2.2 = 0 then ((imageeditorlaw24_values.f 3 (([0, 0, 0] : List Int))).bind fun bt481 => ((imageeditorlaw24_same.f k bt405.1 bt405.2.1 bt405.2.2.1 bt481.1 bt481.2.1 bt481.2.2).bind fun t486 => (if t486 = true then (if bt405.2.2.2 = 0 then (if bt412.2.2.2 = 24 then (if bt419.2.2.2 = 2 then (some (bt426.2.2.2 == 0)) else (some false)) else (some false)) else (some false)) else (some false)))) else (some false)) else (some false)))) else (some false)) else (some false)))) else (some false)) else (some false)))) else (some false)) else (some false)))) else (some false)) else (some false)))))))))))))) = some r := H
 have A1 := Aside0.mk A10
 clear A10
 obtain ⟨y360, hy360⟩ : ∃ y_ : List Int, y_ = (([0, 9, 9, 0] : List Int)) := ⟨_, rfl⟩
 replace H : ((imageeditorlaw24_reds.f k 2 y360).bind fun bt363 => ((wand_Flood.f k t355 t356 t357 0 0 4 false).bind fun bt370 => ((wand_Flood.f k t355 t356 t357 0 0 5 false).bind fun bt377 => ((wand_Flood.f k bt363.1 bt363.2.1 bt363.2.2 0 0 0 true).bind fun bt384 => ((wand_Similar.f k t355 t356 t357 0 0 0 0 4).bind fun bt391 => ((wand_Soft.f k t355 t356 t357 0 0 0 0 0 10).bind fun bt398 => ((wand_Opaque.f k t355 t356 t357).bind fun bt405 => ((wand_Soft.f k t355 t356 t357 0 0 0 0 5 5).bind fun bt412 => ((wand_Flood.f k 0 0 ([] : List (S37)) 0 0 0 false).bind fun bt419 => ((wand_Similar.f k 0 0 ([] : List (S37)) 0 0 0 0 0).bind fun bt426 => ((imageeditorlaw24_values.f 3 (([65535, 0, 0] : List Int))).bind fun bt436 => ((imageeditorlaw24_same.f k bt370.1 bt370.2.1 bt370.2.2.1 bt436.1 bt436.2.1 bt436.2.2).bind fun t441 => (if t441 = true then (if bt370.2.2.2 = 0 then ((imageeditorlaw24_values.f 3 (([65535, 65535, 65535] : List Int))).bind fun bt445 => ((imageeditorlaw24_same.f k bt377.1 bt377.2.1 bt377.2.2.1 bt445.1 bt445.2.1 bt445.2.2).bind fun t450 => (if t450 = true then (if bt377.2.2.2 = 0 then ((imageeditorlaw24_values.f 2 (([65535, 0, 0, 65535] : List Int))).bind fun bt454 => ((imageeditorlaw24_same.f k bt384.1 bt384.2.1 bt384.2.2.1 bt454.1 bt454.2.1 bt454.2.2).bind fun t459 => (if t459 = true then (if bt384.2.2.2 = 0 then ((imageeditorlaw24_values.f 3 (([65535, 0, 65535] : List Int))).bind fun bt463 => ((imageeditorlaw24_same.f k bt391.1 bt391.2.1 bt391.2.2.1 bt463.1 bt463.2.1 bt463.2.2).bind fun t468 => (if t468 = true then (if bt391.2.2.2 = 0 then ((imageeditorlaw24_values.f 3 (([65535, 32768, 65535] : List Int))).bind fun bt472 => ((imageeditorlaw24_same.f k bt398.1 bt398.2.1 bt398.2.2.1 bt472.1 bt472.2.1 bt472.2.2).bind fun t477 => (if t477 = true then (if bt398.2.2.2 = 0 then ((imageeditorlaw24_values.f 3 (([0, 0, 0] : List Int))).bind fun bt481 => ((imageeditorlaw24_same.f k bt405.1 bt405.2.1 bt405.2.2.1 bt481.1 bt481.2.1 bt481.2.2).bind fun t486 => (if t486 = true then (if bt405.2.2.2 = 0 then (if bt412.2.2.2 = 24 then (if bt419.2.2.2 = 2 then (some (bt426.2.2.2 == 0)) else (some false)) else (some false)) else (some false)) else (some false)))) else (some false)) else (some false)))) else (some false)) else (some false)))) else (some false)) else (some false)))) else (some false)) else (some false)))) else (some false)) else (some false)))))))))))))) = some r := by first | (rw [hy360]; with_reducible exact H) | (have H2_ := (Option.bind_some _ _).symm.trans H; rw [hy360]; with_reducible exact H2_) | (have H2_ := (Option.bind_some _ _).symm.trans H; with_reducible exact H2_) | with_reducible exact H | (rw [hy360]; exact H) | exact H
 have Ny360 := Aside0.mk hy360
 clear hy360
 replace H := Option.bind_eq_some_iff.mp H
 obtain ⟨⟨t363, t364, t365⟩, A20, H⟩ := H
 replace H : ((wand_Flood.f k t355 t356 t357 0 0 4 false).bind fun bt370 => ((wand_Flood.f k t355 t356 t357 0 0 5 false).bind fun bt377 => ((wand_Flood.f k t363 t364 t365 0 0 0 true).bind fun bt384 => ((wand_Similar.f k t355 t356 t357 0 0 0 0 4).bind fun bt391 => ((wand_Soft.f k t355 t356 t357 0 0 0 0 0 10).bind fun bt398 => ((wand_Opaque.f k t355 t356 t357).bind fun bt405 => ((wand_Soft.f k t355 t356 t357 0 0 0 0 5 5).bind fun bt412 => ((wand_Flood.f k 0 0 ([] : List (S37)) 0 0 0 false).bind fun bt419 => ((wand_Similar.f k 0 0 ([] : List (S37)) 0 0 0 0 0).bind fun bt426 => ((imageeditorlaw24_values.f 3 (([65535, 0, 0] : List Int))).bind fun bt436 => ((imageeditorlaw24_same.f k bt370.1 bt370.2.1 bt370.2.2.1 bt436.1 bt436.2.1 bt436.2.2).bind fun t441 => (if t441 = true then (if bt370.2.2.2 = 0 then ((imageeditorlaw24_values.f 3 (([65535, 65535, 65535] : List Int))).bind fun bt445 => ((imageeditorlaw24_same.f k bt377.1 bt377.2.1 bt377.2.2.1 bt445.1 bt445.2.1 bt445.2.2).bind fun t450 => (if t450 = true then (if bt377.2.2.2 = 0 then ((imageeditorlaw24_values.f 2 (([65535, 0, 0, 65535] : List Int))).bind fun bt454 => ((imageeditorlaw24_same.f k bt384.1 bt384.2.1 bt384.2.2.1 bt454.1 bt454.2.1 bt454.2.2).bind fun t459 => (if t459 = true then (if bt384.2.2.2 = 0 then ((imageeditorlaw24_values.f 3 (([65535, 0, 65535] : List Int))).bind fun bt463 => ((imageeditorlaw24_same.f k bt391.1 bt391.2.1 bt391.2.2.1 bt463.1 bt463.2.1 bt463.2.2).bind fun t468 => (if t468 = true then (if bt391.2.2.2 = 0 then ((imageeditorlaw24_values.f 3 (([65535, 32768, 65535] : List Int))).bind fun bt472 => ((imageeditorlaw24_same.f k bt398.1 bt398.2.1 bt398.2.2.1 bt472.1 bt472.2.1 bt472.2.2).bind fun t477 => (if t477 = true then (if bt398.2.2.2 = 0 then ((imageeditorlaw24_values.f 3 (([0, 0, 0] : List Int))).bind fun bt481 => ((imageeditorlaw24_same.f k bt405.1 bt405.2.1 bt405.2.2.1 bt481.1 bt481.2.1 bt481.2.2).bind fun t486 => (if t486 = true then (if bt405.2.2.2 = 0 then (if bt412.2.2.2 = 24 then (if bt419.2.2.2 = 2 then (some (bt426.2.2.2 == 0)) else (some false)) else (some false)) else (some false)) else (some false)))) else (some false)) else (some false)))) else (some false)) else (some false)))) else (some false)) else (some false)))) else (some false)) else (some false)))) else (some false)) else (some false))))))))))))) = some r := H
 have A2 := Aside0.mk A20
 clear A20
 replace H := Option.bind_eq_some_iff.mp H
 obtain ⟨⟨t370, t371, t372, t375⟩, A30, H⟩ := H
 replace H : ((wand_Flood.f k t355 t356 t357 0 0 5 false).bind fun bt377 => ((wand_Flood.f k t363 t364 t365 0 0 0 true).bind fun bt384 => ((wand_Similar.f k t355 t356 t357 0 0 0 0 4).bind fun bt391 => ((wand_Soft.f k t355 t356 t357 0 0 0 0 0 10).bind fun bt398 => ((wand_Opaque.f k t355 t356 t357).bind fun bt405 => ((wand_Soft.f k t355 t356 t357 0 0 0 0 5 5).bind fun bt412 => ((wand_Flood.f k 0 0 ([] : List (S37)) 0 0 0 false).bind fun bt419 => ((wand_Similar.f k 0 0 ([] : List (S37)) 0 0 0 0 0).bind fun bt426 => ((imageeditorlaw24_values.f 3 (([65535, 0, 0] : List Int))).bind fun bt436 => ((imageeditorlaw24_same.f k t370 t371 t372 bt436.1 bt436.2.1 bt436.2.2).bind fun t441 => (if t441 = true then (if t375 = 0 then ((imageeditorlaw24_values.f 3 (([65535, 65535, 65535] : List Int))).bind fun bt445 => ((imageeditorlaw24_same.f k bt377.1 bt377.2.1 bt377.2.2.1 bt445.1 bt445.2.1 bt445.2.2).bind fun t450 => (if t450 = true then (if bt377.2.2.2 = 0 then ((imageeditorlaw24_values.f 2 (([65535, 0, 0, 65535] : List Int))).bind fun bt454 => ((imageeditorlaw24_same.f k bt384.1 bt384.2.1 bt384.2.2.1 bt454.1 bt454.2.1 bt454.2.2).bind fun t459 => (if t459 = true then (if bt384.2.2.2 = 0 then ((imageeditorlaw24_values.f 3 (([65535, 0, 65535] : List Int))).bind fun bt463 => ((imageeditorlaw24_same.f k bt391.1 bt391.2.1 bt391.2.2.1 bt463.1 bt463.2.1 bt463.2.2).bind fun t468 => (if t468 = true then (if bt391.2.2.2 = 0 then ((imageeditorlaw24_values.f 3 (([65535, 32768, 65535] : List Int))).bind fun bt472 => ((imageeditorlaw24_same.f k bt398.1 bt398.2.1 bt398.2.2.1 bt472.1 bt472.2.1 bt472.2.2).bind fun t477 => (if t477 = true then (if bt398.2.2.2 = 0 then ((imageeditorlaw24_values.f 3 (([0, 0, 0] : List Int))).bind fun bt481 => ((imageeditorlaw24_same.f k bt405.1 bt405.2.1 bt405.2.2.1 bt481.1 bt481.2.1 bt481.2.2).bind fun t486 => (if t486 = true then (if bt405.2.2.2 = 0 then (if bt412.2.2.2 = 24 then (if bt419.2.2.2 = 2 then (some (bt426.2.2.2 == 0)) else (some false)) else (some false)) else (some false)) else (some false)))) else (some false)) else (some false)))) else (some false)) else (some false)))) else (some false)) else (some false)))) else (some false)) else (some false)))) else (some false)) else (some false)))))))))))) = some r := H
 have A3 := Aside0.mk A30
 clear A30
 replace H := Option.bind_eq_some_iff.mp H
 obtain ⟨⟨t377, t378, t379, t382⟩, A40, H⟩ := H
 replace H : ((wand_Flood.f k t363 t364 t365 0 0 0 true).bind fun bt384 => ((wand_Similar.f k t355 t356 t357 0 0 0 0 4).bind fun bt391 => ((wand_Soft.f k t355 t356 t357 0 0 0 0 0 10).bind fun bt398 => ((wand_Opaque.f k t355 t356 t357).bind fun bt405 => ((wand_Soft.f k t355 t356 t357 0 0 0 0 5 5).bind fun bt412 => ((wand_Flood.f k 0 0 ([] : List (S37)) 0 0 0 false).bind fun bt419 => ((wand_Similar.f k 0 0 ([] : List (S37)) 0 0 0 0 0).bind fun bt426 => ((imageeditorlaw24_values.f 3 (([65535, 0, 0] : List Int))).bind fun bt436 => ((imageeditorlaw24_same.f k t370 t371 t372 bt436.1 bt436.2.1 bt436.2.2).bind fun t441 => (if t441 = true then (if t375 = 0 then ((imageeditorlaw24_values.f 3 (([65535, 65535, 65535] : List Int))).bind fun bt445 => ((imageeditorlaw24_same.f k t377 t378 t379 bt445.1 bt445.2.1 bt445.2.2).bind fun t450 => (if t450 = true then (if t382 = 0 then ((imageeditorlaw24_values.f 2 (([65535, 0, 0, 65535] : List Int))).bind fun bt454 => ((imageeditorlaw24_same.f k bt384.1 bt384.2.1 bt384.2.2.1 bt454.1 bt454.2.1 bt454.2.2).bind fun t459 => (if t459 = true then (if bt384.2.2.2 = 0 then ((imageeditorlaw24_values.f 3 (([65535, 0, 65535] : List Int))).bind fun bt463 => ((imageeditorlaw24_same.f k bt391.1 bt391.2.1 bt391.2.2.1 bt463.1 bt463.2.1 bt463.2.2).bind fun t468 => (if t468 = true then (if bt391.2.2.2 = 0 then ((imageeditorlaw24_values.f 3 (([65535, 32768, 65535] : List Int))).bind fun bt472 => ((imageeditorlaw24_same.f k bt398.1 bt398.2.1 bt398.2.2.1 bt472.1 bt472.2.1 bt472.2.2).bind fun t477 => (if t477 = true then (if bt398.2.2.2 = 0 then ((imageeditorlaw24_values.f 3 (([0, 0, 0] : List Int))).bind fun bt481 => ((imageeditorlaw24_same.f k bt405.1 bt405.2.1 bt405.2.2.1 bt481.1 bt481.2.1 bt481.2.2).bind fun t486 => (if t486 = true then (if bt405.2.2.2 = 0 then (if bt412.2.2.2 = 24 then (if bt419.2.2.2 = 2 then (some (bt426.2.2.2 == 0)) else (some false)) else (some false)) else (some false)) else (some false)))) else (some false)) else (some false)))) else (some false)) else (some false)))) else (some false)) else (some false)))) else (some false)) else (some false)))) else (some false)) else (some false))))))))))) = some r := H
 have A4 := Aside0.mk A40
 clear A40
 replace H := Option.bind_eq_some_iff.mp H
 obtain ⟨⟨t384, t385, t386, t389⟩, A50, H⟩ := H
 replace H : ((wand_Similar.f k t355 t356 t357 0 0 0 0 4).bind fun bt391 => ((wand_Soft.f k t355 t356 t357 0 0 0 0 0 10).bind fun bt398 => ((wand_Opaque.f k t355 t356 t357).bind fun bt405 => ((wand_Soft.f k t355 t356 t357 0 0 0 0 5 5).bind fun bt412 => ((wand_Flood.f k 0 0 ([] : List (S37)) 0 0 0 false).bind fun bt419 => ((wand_Similar.f k 0 0 ([] : List (S37)) 0 0 0 0 0).bind fun bt426 => ((imageeditorlaw24_values.f 3 (([65535, 0, 0] : List Int))).bind fun bt436 => ((imageeditorlaw24_same.f k t370 t371 t372 bt436.1 bt436.2.1 bt436.2.2).bind fun t441 => (if t441 = true then (if t375 = 0 then ((imageeditorlaw24_values.f 3 (([65535, 65535, 65535] : List Int))).bind fun bt445 => ((imageeditorlaw24_same.f k t377 t378 t379 bt445.1 bt445.2.1 bt445.2.2).bind fun t450 => (if t450 = true then (if t382 = 0 then ((imageeditorlaw24_values.f 2 (([65535, 0, 0, 65535] : List Int))).bind fun bt454 => ((imageeditorlaw24_same.f k t384 t385 t386 bt454.1 bt454.2.1 bt454.2.2).bind fun t459 => (if t459 = true then (if t389 = 0 then ((imageeditorlaw24_values.f 3 (([65535, 0, 65535] : List Int))).bind fun bt463 => ((imageeditorlaw24_same.f k bt391.1 bt391.2.1 bt391.2.2.1 bt463.1 bt463.2.1 bt463.2.2).bind fun t468 => (if t468 = true then (if bt391.2.2.2 = 0 then ((imageeditorlaw24_values.f 3 (([65535, 32768, 65535] : List Int))).bind fun bt472 => ((imageeditorlaw24_same.f k bt398.1 bt398.2.1 bt398.2.2.1 bt472.1 bt472.2.1 bt472.2.2).bind fun t477 => (if t477 = true then (if bt398.2.2.2 = 0 then ((imageeditorlaw24_values.f 3 (([0, 0, 0] : List Int))).bind fun bt481 => ((imageeditorlaw24_same.f k bt405.1 bt405.2.1 bt405.2.2.1 bt481.1 bt481.2.1 bt481.2.2).bind fun t486 => (if t486 = true then (if bt405.2.2.2 = 0 then (if bt412.2.2.2 = 24 then (if bt419.2.2.2 = 2 then (some (bt426.2.2.2 == 0)) else (some false)) else (some false)) else (some false)) else (some false)))) else (some false)) else (some false)))) else (some false)) else (some false)))) else (some false)) else (some false)))) else (some false)) else (some false)))) else (some false)) else (some false)))))))))) = some r := H
 have A5 := Aside0.mk A50
 clear A50
 replace H := Option.bind_eq_some_iff.mp H
 obtain ⟨⟨t391, t392, t393, t396⟩, A60, H⟩ := H
 replace H : ((wand_Soft.f k t355 t356 t357 0 0 0 0 0 10).bind fun bt398 => ((wand_Opaque.f k t355 t356 t357).bind fun bt405 => ((wand_Soft.f k t355 t356 t357 0 0 0 0 5 5).bind fun bt412 => ((wand_Flood.f k 0 0 ([] : List (S37)) 0 0 0 false).bind fun bt419 => ((wand_Similar.f k 0 0 ([] : List (S37)) 0 0 0 0 0).bind fun bt426 => ((imageeditorlaw24_values.f 3 (([65535, 0, 0] : List Int))).bind fun bt436 => ((imageeditorlaw24_same.f k t370 t371 t372 bt436.1 bt436.2.1 bt436.2.2).bind fun t441 => (if t441 = true then (if t375 = 0 then ((imageeditorlaw24_values.f 3 (([65535, 65535, 65535] : List Int))).bind fun bt445 => ((imageeditorlaw24_same.f k t377 t378 t379 bt445.1 bt445.2.1 bt445.2.2).bind fun t450 => (if t450 = true then (if t382 = 0 then ((imageeditorlaw24_values.f 2 (([65535, 0, 0, 65535] : List Int))).bind fun bt454 => ((imageeditorlaw24_same.f k t384 t385 t386 bt454.1 bt454.2.1 bt454.2.2).bind fun t459 => (if t459 = true then (if t389 = 0 then ((imageeditorlaw24_values.f 3 (([65535, 0, 65535] : List Int))).bind fun bt463 => ((imageeditorlaw24_same.f k t391 t392 t393 bt463.1 bt463.2.1 bt463.2.2).bind fun t468 => (if t468 = true then (if t396 = 0 then ((imageeditorlaw24_values.f 3 (([65535, 32768, 65535] : List Int))).bind fun bt472 => ((imageeditorlaw24_same.f k bt398.1 bt398.2.1 bt398.2.2.1 bt472.1 bt472.2.1 bt472.2.2).bind fun t477 => (if t477 = true then (if bt398.2.2.2 = 0 then ((imageeditorlaw24_values.f 3 (([0, 0, 0] : List Int))).bind fun bt481 => ((imageeditorlaw24_same.f k bt405.1 bt405.2.1 bt405.2.2.1 bt481.1 bt481.2.1 bt481.2.2).bind fun t486 => (if t486 = true then (if bt405.2.2.2 = 0 then (if bt412.2.2.2 = 24 then (if bt419.2.2.2 = 2 then (some (bt426.2.2.2 == 0)) else (some false)) else (some false)) else (some false)) else (some false)))) else (some false)) else (some false)))) else (some false)) else (some false)))) else (some false)) else (some false)))) else (some false)) else (some false)))) else (some false)) else (some false))))))))) = some r := H
 have A6 := Aside0.mk A60
 clear A60
 replace H := Option.bind_eq_some_iff.mp H
 obtain ⟨⟨t398, t399, t400, t403⟩, A70, H⟩ := H
 replace H : ((wand_Opaque.f k t355 t356 t357).bind fun bt405 => ((wand_Soft.f k t355 t356 t357 0 0 0 0 5 5).bind fun bt412 => ((wand_Flood.f k 0 0 ([] : List (S37)) 0 0 0 false).bind fun bt419 => ((wand_Similar.f k 0 0 ([] : List (S37)) 0 0 0 0 0).bind fun bt426 => ((imageeditorlaw24_values.f 3 (([65535, 0, 0] : List Int))).bind fun bt436 => ((imageeditorlaw24_same.f k t370 t371 t372 bt436.1 bt436.2.1 bt436.2.2).bind fun t441 => (if t441 = true then (if t375 = 0 then ((imageeditorlaw24_values.f 3 (([65535, 65535, 65535] : List Int))).bind fun bt445 => ((imageeditorlaw24_same.f k t377 t378 t379 bt445.1 bt445.2.1 bt445.2.2).bind fun t450 => (if t450 = true then (if t382 = 0 then ((imageeditorlaw24_values.f 2 (([65535, 0, 0, 65535] : List Int))).bind fun bt454 => ((imageeditorlaw24_same.f k t384 t385 t386 bt454.1 bt454.2.1 bt454.2.2).bind fun t459 => (if t459 = true then (if t389 = 0 then ((imageeditorlaw24_values.f 3 (([65535, 0, 65535] : List Int))).bind fun bt463 => ((imageeditorlaw24_same.f k t391 t392 t393 bt463.1 bt463.2.1 bt463.2.2).bind fun t468 => (if t468 = true then (if t396 = 0 then ((imageeditorlaw24_values.f 3 (([65535, 32768, 65535] : List Int))).bind fun bt472 => ((imageeditorlaw24_same.f k t398 t399 t400 bt472.1 bt472.2.1 bt472.2.2).bind fun t477 => (if t477 = true then (if t403 = 0 then ((imageeditorlaw24_values.f 3 (([0, 0, 0] : List Int))).bind fun bt481 => ((imageeditorlaw24_same.f k bt405.1 bt405.2.1 bt405.2.2.1 bt481.1 bt481.2.1 bt481.2.2).bind fun t486 => (if t486 = true then (if bt405.2.2.2 = 0 then (if bt412.2.2.2 = 24 then (if bt419.2.2.2 = 2 then (some (bt426.2.2.2 == 0)) else (some false)) else (some false)) else (some false)) else (some false)))) else (some false)) else (some false)))) else (some false)) else (some false)))) else (some false)) else (some false)))) else (some false)) else (some false)))) else (some false)) else (some false)))))))) = some r := H
 have A7 := Aside0.mk A70
 clear A70
 replace H := Option.bind_eq_some_iff.mp H
 obtain ⟨⟨t405, t406, t407, t410⟩, A80, H⟩ := H
 replace H : ((wand_Soft.f k t355 t356 t357 0 0 0 0 5 5).bind fun bt412 => ((wand_Flood.f k 0 0 ([] : List (S37)) 0 0 0 false).bind fun bt419 => ((wand_Similar.f k 0 0 ([] : List (S37)) 0 0 0 0 0).bind fun bt426 => ((imageeditorlaw24_values.f 3 (([65535, 0, 0] : List Int))).bind fun bt436 => ((imageeditorlaw24_same.f k t370 t371 t372 bt436.1 bt436.2.1 bt436.2.2).bind fun t441 => (if t441 = true then (if t375 = 0 then ((imageeditorlaw24_values.f 3 (([65535, 65535, 65535] : List Int))).bind fun bt445 => ((imageeditorlaw24_same.f k t377 t378 t379 bt445.1 bt445.2.1 bt445.2.2).bind fun t450 => (if t450 = true then (if t382 = 0 then ((imageeditorlaw24_values.f 2 (([65535, 0, 0, 65535] : List Int))).bind fun bt454 => ((imageeditorlaw24_same.f k t384 t385 t386 bt454.1 bt454.2.1 bt454.2.2).bind fun t459 => (if t459 = true then (if t389 = 0 then ((imageeditorlaw24_values.f 3 (([65535, 0, 65535] : List Int))).bind fun bt463 => ((imageeditorlaw24_same.f k t391 t392 t393 bt463.1 bt463.2.1 bt463.2.2).bind fun t468 => (if t468 = true then (if t396 = 0 then ((imageeditorlaw24_values.f 3 (([65535, 32768, 65535] : List Int))).bind fun bt472 => ((imageeditorlaw24_same.f k t398 t399 t400 bt472.1 bt472.2.1 bt472.2.2).bind fun t477 => (if t477 = true then (if t403 = 0 then ((imageeditorlaw24_values.f 3 (([0, 0, 0] : List Int))).bind fun bt481 => ((imageeditorlaw24_same.f k t405 t406 t407 bt481.1 bt481.2.1 bt481.2.2).bind fun t486 => (if t486 = true then (if t410 = 0 then (if bt412.2.2.2 = 24 then (if bt419.2.2.2 = 2 then (some (bt426.2.2.2 == 0)) else (some false)) else (some false)) else (some false)) else (some false)))) else (some false)) else (some false)))) else (some false)) else (some false)))) else (some false)) else (some false)))) else (some false)) else (some false)))) else (some false)) else (some false))))))) = some r := H
 have A8 := Aside0.mk A80
 clear A80
 replace H := Option.bind_eq_some_iff.mp H
 obtain ⟨⟨t412, t413, t414, t417⟩, A90, H⟩ := H
 replace H : ((wand_Flood.f k 0 0 ([] : List (S37)) 0 0 0 false).bind fun bt419 => ((wand_Similar.f k 0 0 ([] : List (S37)) 0 0 0 0 0).bind fun bt426 => ((imageeditorlaw24_values.f 3 (([65535, 0, 0] : List Int))).bind fun bt436 => ((imageeditorlaw24_same.f k t370 t371 t372 bt436.1 bt436.2.1 bt436.2.2).bind fun t441 => (if t441 = true then (if t375 = 0 then ((imageeditorlaw24_values.f 3 (([65535, 65535, 65535] : List Int))).bind fun bt445 => ((imageeditorlaw24_same.f k t377 t378 t379 bt445.1 bt445.2.1 bt445.2.2).bind fun t450 => (if t450 = true then (if t382 = 0 then ((imageeditorlaw24_values.f 2 (([65535, 0, 0, 65535] : List Int))).bind fun bt454 => ((imageeditorlaw24_same.f k t384 t385 t386 bt454.1 bt454.2.1 bt454.2.2).bind fun t459 => (if t459 = true then (if t389 = 0 then ((imageeditorlaw24_values.f 3 (([65535, 0, 65535] : List Int))).bind fun bt463 => ((imageeditorlaw24_same.f k t391 t392 t393 bt463.1 bt463.2.1 bt463.2.2).bind fun t468 => (if t468 = true then (if t396 = 0 then ((imageeditorlaw24_values.f 3 (([65535, 32768, 65535] : List Int))).bind fun bt472 => ((imageeditorlaw24_same.f k t398 t399 t400 bt472.1 bt472.2.1 bt472.2.2).bind fun t477 => (if t477 = true then (if t403 = 0 then ((imageeditorlaw24_values.f 3 (([0, 0, 0] : List Int))).bind fun bt481 => ((imageeditorlaw24_same.f k t405 t406 t407 bt481.1 bt481.2.1 bt481.2.2).bind fun t486 => (if t486 = true then (if t410 = 0 then (if t417 = 24 then (if bt419.2.2.2 = 2 then (some (bt426.2.2.2 == 0)) else (some false)) else (some false)) else (some false)) else (some false)))) else (some false)) else (some false)))) else (some false)) else (some false)))) else (some false)) else (some false)))) else (some false)) else (some false)))) else (some false)) else (some false)))))) = some r := H
 have A9 := Aside0.mk A90
 clear A90
 replace H := Option.bind_eq_some_iff.mp H
 obtain ⟨⟨t419, t420, t421, t424⟩, A100, H⟩ := H
 replace H : ((wand_Similar.f k 0 0 ([] : List (S37)) 0 0 0 0 0).bind fun bt426 => ((imageeditorlaw24_values.f 3 (([65535, 0, 0] : List Int))).bind fun bt436 => ((imageeditorlaw24_same.f k t370 t371 t372 bt436.1 bt436.2.1 bt436.2.2).bind fun t441 => (if t441 = true then (if t375 = 0 then ((imageeditorlaw24_values.f 3 (([65535, 65535, 65535] : List Int))).bind fun bt445 => ((imageeditorlaw24_same.f k t377 t378 t379 bt445.1 bt445.2.1 bt445.2.2).bind fun t450 => (if t450 = true then (if t382 = 0 then ((imageeditorlaw24_values.f 2 (([65535, 0, 0, 65535] : List Int))).bind fun bt454 => ((imageeditorlaw24_same.f k t384 t385 t386 bt454.1 bt454.2.1 bt454.2.2).bind fun t459 => (if t459 = true then (if t389 = 0 then ((imageeditorlaw24_values.f 3 (([65535, 0, 65535] : List Int))).bind fun bt463 => ((imageeditorlaw24_same.f k t391 t392 t393 bt463.1 bt463.2.1 bt463.2.2).bind fun t468 => (if t468 = true then (if t396 = 0 then ((imageeditorlaw24_values.f 3 (([65535, 32768, 65535] : List Int))).bind fun bt472 => ((imageeditorlaw24_same.f k t398 t399 t400 bt472.1 bt472.2.1 bt472.2.2).bind fun t477 => (if t477 = true then (if t403 = 0 then ((imageeditorlaw24_values.f 3 (([0, 0, 0] : List Int))).bind fun bt481 => ((imageeditorlaw24_same.f k t405 t406 t407 bt481.1 bt481.2.1 bt481.2.2).bind fun t486 => (if t486 = true then (if t410 = 0 then (if t417 = 24 then (if t424 = 2 then (some (bt426.2.2.2 == 0)) else (some false)) else (some false)) else (some false)) else (some false)))) else (some false)) else (some false)))) else (some false)) else (some false)))) else (some false)) else (some false)))) else (some false)) else (some false)))) else (some false)) else (some false))))) = some r := H
 have A10 := Aside0.mk A100
 clear A100
 replace H := Option.bind_eq_some_iff.mp H
 obtain ⟨⟨t426, t427, t428, t431⟩, A110, H⟩ := H
 replace H : ((imageeditorlaw24_values.f 3 (([65535, 0, 0] : List Int))).bind fun bt436 => ((imageeditorlaw24_same.f k t370 t371 t372 bt436.1 bt436.2.1 bt436.2.2).bind fun t441 => (if t441 = true then (if t375 = 0 then ((imageeditorlaw24_values.f 3 (([65535, 65535, 65535] : List Int))).bind fun bt445 => ((imageeditorlaw24_same.f k t377 t378 t379 bt445.1 bt445.2.1 bt445.2.2).bind fun t450 => (if t450 = true then (if t382 = 0 then ((imageeditorlaw24_values.f 2 (([65535, 0, 0, 65535] : List Int))).bind fun bt454 => ((imageeditorlaw24_same.f k t384 t385 t386 bt454.1 bt454.2.1 bt454.2.2).bind fun t459 => (if t459 = true then (if t389 = 0 then ((imageeditorlaw24_values.f 3 (([65535, 0, 65535] : List Int))).bind fun bt463 => ((imageeditorlaw24_same.f k t391 t392 t393 bt463.1 bt463.2.1 bt463.2.2).bind fun t468 => (if t468 = true then (if t396 = 0 then ((imageeditorlaw24_values.f 3 (([65535, 32768, 65535] : List Int))).bind fun bt472 => ((imageeditorlaw24_same.f k t398 t399 t400 bt472.1 bt472.2.1 bt472.2.2).bind fun t477 => (if t477 = true then (if t403 = 0 then ((imageeditorlaw24_values.f 3 (([0, 0, 0] : List Int))).bind fun bt481 => ((imageeditorlaw24_same.f k t405 t406 t407 bt481.1 bt481.2.1 bt481.2.2).bind fun t486 => (if t486 = true then (if t410 = 0 then (if t417 = 24 then (if t424 = 2 then (some (t431 == 0)) else (some false)) else (some false)) else (some false)) else (some false)))) else (some false)) else (some false)))) else (some false)) else (some false)))) else (some false)) else (some false)))) else (some false)) else (some false)))) else (some false)) else (some false)))) = some r := H
 have A11 := Aside0.mk A110
 clear A110
 obtain ⟨y433, hy433⟩ : ∃ y_ : List Int, y_ = (([65535, 0, 0] : List Int)) := ⟨_, rfl⟩
 replace H : ((imageeditorlaw24_values.f 3 y433).bind fun bt436 => ((imageeditorlaw24_same.f k t370 t371 t372 bt436.1 bt436.2.1 bt436.2.2).bind fun t441 => (if t441 = true then (if t375 = 0 then ((imageeditorlaw24_values.f 3 (([65535, 65535, 65535] : List Int))).bind fun bt445 => ((imageeditorlaw24_same.f k t377 t378 t379 bt445.1 bt445.2.1 bt445.2.2).bind fun t450 => (if t450 = true then (if t382 = 0 then ((imageeditorlaw24_values.f 2 (([65535, 0, 0, 65535] : List Int))).bind fun bt454 => ((imageeditorlaw24_same.f k t384 t385 t386 bt454.1 bt454.2.1 bt454.2.2).bind fun t459 => (if t459 = true then (if t389 = 0 then ((imageeditorlaw24_values.f 3 (([65535, 0, 65535] : List Int))).bind fun bt463 => ((imageeditorlaw24_same.f k t391 t392 t393 bt463.1 bt463.2.1 bt463.2.2).bind fun t468 => (if t468 = true then (if t396 = 0 then ((imageeditorlaw24_values.f 3 (([65535, 32768, 65535] : List Int))).bind fun bt472 => ((imageeditorlaw24_same.f k t398 t399 t400 bt472.1 bt472.2.1 bt472.2.2).bind fun t477 => (if t477 = true then (if t403 = 0 then ((imageeditorlaw24_values.f 3 (([0, 0, 0] : List Int))).bind fun bt481 => ((imageeditorlaw24_same.f k t405 t406 t407 bt481.1 bt481.2.1 bt481.2.2).bind fun t486 => (if t486 = true then (if t410 = 0 then (if t417 = 24 then (if t424 = 2 then (some (t431 == 0)) else (some false)) else (some false)) else (some false)) else (some false)))) else (some false)) else (some false)))) else (some false)) else (some false)))) else (some false)) else (some false)))) else (some false)) else (some false)))) else (some false)) else (some false)))) = some r := by first | (rw [hy433]; with_reducible exact H) | (have H2_ := (Option.bind_some _ _).symm.trans H; rw [hy433]; with_reducible exact H2_) | (have H2_ := (Option.bind_some _ _).symm.trans H; with_reducible exact H2_) | with_reducible exact H | (rw [hy433]; exact H) | exact H
 have Ny433 := Aside0.mk hy433
 clear hy433
 replace H := Option.bind_eq_some_iff.mp H
 obtain ⟨⟨t436, t437, t438⟩, A120, H⟩ := H
 replace H : ((imageeditorlaw24_same.f k t370 t371 t372 t436 t437 t438).bind fun t441 => (if t441 = true then (if t375 = 0 then ((imageeditorlaw24_values.f 3 (([65535, 65535, 65535] : List Int))).bind fun bt445 => ((imageeditorlaw24_same.f k t377 t378 t379 bt445.1 bt445.2.1 bt445.2.2).bind fun t450 => (if t450 = true then (if t382 = 0 then ((imageeditorlaw24_values.f 2 (([65535, 0, 0, 65535] : List Int))).bind fun bt454 => ((imageeditorlaw24_same.f k t384 t385 t386 bt454.1 bt454.2.1 bt454.2.2).bind fun t459 => (if t459 = true then (if t389 = 0 then ((imageeditorlaw24_values.f 3 (([65535, 0, 65535] : List Int))).bind fun bt463 => ((imageeditorlaw24_same.f k t391 t392 t393 bt463.1 bt463.2.1 bt463.2.2).bind fun t468 => (if t468 = true then (if t396 = 0 then ((imageeditorlaw24_values.f 3 (([65535, 32768, 65535] : List Int))).bind fun bt472 => ((imageeditorlaw24_same.f k t398 t399 t400 bt472.1 bt472.2.1 bt472.2.2).bind fun t477 => (if t477 = true then (if t403 = 0 then ((imageeditorlaw24_values.f 3 (([0, 0, 0] : List Int))).bind fun bt481 => ((imageeditorlaw24_same.f k t405 t406 t407 bt481.1 bt481.2.1 bt481.2.2).bind fun t486 => (if t486 = true then (if t410 = 0 then (if t417 = 24 then (if t424 = 2 then (some (t431 == 0)) else (some false)) else (some false)) else (some false)) else (some false)))) else (some false)) else (some false)))) else (some false)) else (some false)))) else (some false)) else (some false)))) else (some false)) else (some false)))) else (some false)) else (some false))) = some r := H
 have A12 := Aside0.mk A120
 clear A120
 replace H := Option.bind_eq_some_iff.mp H
 obtain ⟨t441, A130, H⟩ := H
 replace H : (if t441 = true then (if t375 = 0 then ((imageeditorlaw24_values.f 3 (([65535, 65535, 65535] : List Int))).bind fun bt445 => ((imageeditorlaw24_same.f k t377 t378 t379 bt445.1 bt445.2.1 bt445.2.2).bind fun t450 => (if t450 = true then (if t382 = 0 then ((imageeditorlaw24_values.f 2 (([65535, 0, 0, 65535] : List Int))).bind fun bt454 => ((imageeditorlaw24_same.f k t384 t385 t386 bt454.1 bt454.2.1 bt454.2.2).bind fun t459 => (if t459 = true then (if t389 = 0 then ((imageeditorlaw24_values.f 3 (([65535, 0, 65535] : List Int))).bind fun bt463 => ((imageeditorlaw24_same.f k t391 t392 t393 bt463.1 bt463.2.1 bt463.2.2).bind fun t468 => (if t468 = true then (if t396 = 0 then ((imageeditorlaw24_values.f 3 (([65535, 32768, 65535] : List Int))).bind fun bt472 => ((imageeditorlaw24_same.f k t398 t399 t400 bt472.1 bt472.2.1 bt472.2.2).bind fun t477 => (if t477 = true then (if t403 = 0 then ((imageeditorlaw24_values.f 3 (([0, 0, 0] : List Int))).bind fun bt481 => ((imageeditorlaw24_same.f k t405 t406 t407 bt481.1 bt481.2.1 bt481.2.2).bind fun t486 => (if t486 = true then (if t410 = 0 then (if t417 = 24 then (if t424 = 2 then (some (t431 == 0)) else (some false)) else (some false)) else (some false)) else (some false)))) else (some false)) else (some false)))) else (some false)) else (some false)))) else (some false)) else (some false)))) else (some false)) else (some false)))) else (some false)) else (some false)) = some r := H
 have A13 := Aside0.mk A130
 clear A130
 by_cases c14 : t441 = true
 ·subst c14
  have H1 : (if t375 = 0 then ((imageeditorlaw24_values.f 3 (([65535, 65535, 65535] : List Int))).bind fun bt445 => ((imageeditorlaw24_same.f k t377 t378 t379 bt445.1 bt445.2.1 bt445.2.2).bind fun t450 => (if t450 = true then (if t382 = 0 then ((imageeditorlaw24_values.f 2 (([65535, 0, 0, 65535] : List Int))).bind fun bt454 => ((imageeditorlaw24_same.f k t384 t385 t386 bt454.1 bt454.2.1 bt454.2.2).bind fun t459 => (if t459 = true then (if t389 = 0 then ((imageeditorlaw24_values.f 3 (([65535, 0, 65535] : List Int))).bind fun bt463 => ((imageeditorlaw24_same.f k t391 t392 t393 bt463.1 bt463.2.1 bt463.2.2).bind fun t468 => (if t468 = true then (if t396 = 0 then ((imageeditorlaw24_values.f 3 (([65535, 32768, 65535] : List Int))).bind fun bt472 => ((imageeditorlaw24_same.f k t398 t399 t400 bt472.1 bt472.2.1 bt472.2.2).bind fun t477 => (if t477 = true then (if t403 = 0 then ((imageeditorlaw24_values.f 3 (([0, 0, 0] : List Int))).bind fun bt481 => ((imageeditorlaw24_same.f k t405 t406 t407 bt481.1 bt481.2.1 bt481.2.2).bind fun t486 => (if t486 = true then (if t410 = 0 then (if t417 = 24 then (if t424 = 2 then (some (t431 == 0)) else (some false)) else (some false)) else (some false)) else (some false)))) else (some false)) else (some false)))) else (some false)) else (some false)))) else (some false)) else (some false)))) else (some false)) else (some false)))) else (some false)) = some r := by rw [if_pos rfl] at H; exact H
  clear H
  have H := H1
  clear H1
  by_cases c15 : t375 = 0
  ·rw [if_pos c15] at H
   have c15b0 : (t375 == 0) = true := beq_iff_eq.mpr c15
   have c15b1 : (t375 != 0) = false := bne_eq_false_iff_eq.mpr c15
   clear c15
   obtain ⟨y442, hy442⟩ : ∃ y_ : List Int, y_ = (([65535, 65535, 65535] : List Int)) := ⟨_, rfl⟩
   replace H : ((imageeditorlaw24_values.f 3 y442).bind fun bt445 => ((imageeditorlaw24_same.f k t377 t378 t379 bt445.1 bt445.2.1 bt445.2.2).bind fun t450 => (if t450 = true then (if t382 = 0 then ((imageeditorlaw24_values.f 2 (([65535, 0, 0, 65535] : List Int))).bind fun bt454 => ((imageeditorlaw24_same.f k t384 t385 t386 bt454.1 bt454.2.1 bt454.2.2).bind fun t459 => (if t459 = true then (if t389 = 0 then ((imageeditorlaw24_values.f 3 (([65535, 0, 65535] : List Int))).bind fun bt463 => ((imageeditorlaw24_same.f k t391 t392 t393 bt463.1 bt463.2.1 bt463.2.2).bind fun t468 => (if t468 = true then (if t396 = 0 then ((imageeditorlaw24_values.f 3 (([65535, 32768, 65535] : List Int))).bind fun bt472 => ((imageeditorlaw24_same.f k t398 t399 t400 bt472.1 bt472.2.1 bt472.2.2).bind fun t477 => (if t477 = true then (if t403 = 0 then ((imageeditorlaw24_values.f 3 (([0, 0, 0] : List Int))).bind fun bt481 => ((imageeditorlaw24_same.f k t405 t406 t407 bt481.1 bt481.2.1 bt481.2.2).bind fun t486 => (if t486 = true then (if t410 = 0 then (if t417 = 24 then (if t424 = 2 then (some (t431 == 0)) else (some false)) else (some false)) else (some false)) else (some false)))) else (some false)) else (some false)))) else (some false)) else (some false)))) else (some false)) else (some false)))) else (some false)) else (some false)))) = some r := by first | (rw [hy442]; with_reducible exact H) | (have H2_ := (Option.bind_some _ _).symm.trans H; rw [hy442]; with_reducible exact H2_) | (have H2_ := (Option.bind_some _ _).symm.trans H; with_reducible exact H2_) | with_reducible exact H | (rw [hy442]; exact H) | exact H
   have Ny442 := Aside0.mk hy442
   clear hy442
   replace H := Option.bind_eq_some_iff.mp H
   obtain ⟨⟨t445, t446, t447⟩, A160, H⟩ := H
   replace H : ((imageeditorlaw24_same.f k t377 t378 t379 t445 t446 t447).bind fun t450 => (if t450 = true then (if t382 = 0 then ((imageeditorlaw24_values.f 2 (([65535, 0, 0, 65535] : List Int))).bind fun bt454 => ((imageeditorlaw24_same.f k t384 t385 t386 bt454.1 bt454.2.1 bt454.2.2).bind fun t459 => (if t459 = true then (if t389 = 0 then ((imageeditorlaw24_values.f 3 (([65535, 0, 65535] : List Int))).bind fun bt463 => ((imageeditorlaw24_same.f k t391 t392 t393 bt463.1 bt463.2.1 bt463.2.2).bind fun t468 => (if t468 = true then (if t396 = 0 then ((imageeditorlaw24_values.f 3 (([65535, 32768, 65535] : List Int))).bind fun bt472 => ((imageeditorlaw24_same.f k t398 t399 t400 bt472.1 bt472.2.1 bt472.2.2).bind fun t477 => (if t477 = true then (if t403 = 0 then ((imageeditorlaw24_values.f 3 (([0, 0, 0] : List Int))).bind fun bt481 => ((imageeditorlaw24_same.f k t405 t406 t407 bt481.1 bt481.2.1 bt481.2.2).bind fun t486 => (if t486 = true then (if t410 = 0 then (if t417 = 24 then (if t424 = 2 then (some (t431 == 0)) else (some false)) else (some false)) else (some false)) else (some false)))) else (some false)) else (some false)))) else (some false)) else (some false)))) else (some false)) else (some false)))) else (some false)) else (some false))) = some r := H
   have A16 := Aside0.mk A160
   clear A160
   replace H := Option.bind_eq_some_iff.mp H
   obtain ⟨t450, A170, H⟩ := H
   replace H : (if t450 = true then (if t382 = 0 then ((imageeditorlaw24_values.f 2 (([65535, 0, 0, 65535] : List Int))).bind fun bt454 => ((imageeditorlaw24_same.f k t384 t385 t386 bt454.1 bt454.2.1 bt454.2.2).bind fun t459 => (if t459 = true then (if t389 = 0 then ((imageeditorlaw24_values.f 3 (([65535, 0, 65535] : List Int))).bind fun bt463 => ((imageeditorlaw24_same.f k t391 t392 t393 bt463.1 bt463.2.1 bt463.2.2).bind fun t468 => (if t468 = true then (if t396 = 0 then ((imageeditorlaw24_values.f 3 (([65535, 32768, 65535] : List Int))).bind fun bt472 => ((imageeditorlaw24_same.f k t398 t399 t400 bt472.1 bt472.2.1 bt472.2.2).bind fun t477 => (if t477 = true then (if t403 = 0 then ((imageeditorlaw24_values.f 3 (([0, 0, 0] : List Int))).bind fun bt481 => ((imageeditorlaw24_same.f k t405 t406 t407 bt481.1 bt481.2.1 bt481.2.2).bind fun t486 => (if t486 = true then (if t410 = 0 then (if t417 = 24 then (if t424 = 2 then (some (t431 == 0)) else (some false)) else (some false)) else (some false)) else (some false)))) else (some false)) else (some false)))) else (some false)) else (some false)))) else (some false)) else (some false)))) else (some false)) else (some false)) = some r := H
   have A17 := Aside0.mk A170
   clear A170
   by_cases c18 : t450 = true
   ·subst c18
    have H1 : (if t382 = 0 then ((imageeditorlaw24_values.f 2 (([65535, 0, 0, 65535] : List Int))).bind fun bt454 => ((imageeditorlaw24_same.f k t384 t385 t386 bt454.1 bt454.2.1 bt454.2.2).bind fun t459 => (if t459 = true then (if t389 = 0 then ((imageeditorlaw24_values.f 3 (([65535, 0, 65535] : List Int))).bind fun bt463 => ((imageeditorlaw24_same.f k t391 t392 t393 bt463.1 bt463.2.1 bt463.2.2).bind fun t468 => (if t468 = true then (if t396 = 0 then ((imageeditorlaw24_values.f 3 (([65535, 32768, 65535] : List Int))).bind fun bt472 => ((imageeditorlaw24_same.f k t398 t399 t400 bt472.1 bt472.2.1 bt472.2.2).bind fun t477 => (if t477 = true then (if t403 = 0 then ((imageeditorlaw24_values.f 3 (([0, 0, 0] : List Int))).bind fun bt481 => ((imageeditorlaw24_same.f k t405 t406 t407 bt481.1 bt481.2.1 bt481.2.2).bind fun t486 => (if t486 = true then (if t410 = 0 then (if t417 = 24 then (if t424 = 2 then (some (t431 == 0)) else (some false)) else (some false)) else (some false)) else (some false)))) else (some false)) else (some false)))) else (some false)) else (some false)))) else (some false)) else (some false)))) else (some false)) = some r := by rw [if_pos rfl] at H; exact H
    clear H
    have H := H1
    clear H1
    by_cases c19 : t382 = 0
    ·rw [if_pos c19] at H
     have c19b0 : (t382 == 0) = true := beq_iff_eq.mpr c19
     have c19b1 : (t382 != 0) = false := bne_eq_false_iff_eq.mpr c19
     clear c19
     obtain ⟨y451, hy451⟩ : ∃ y_ : List Int, y_ = (([65535, 0, 0, 65535] : List Int)) := ⟨_, rfl⟩
     replace H : ((imageeditorlaw24_values.f 2 y451).bind fun bt454 => ((imageeditorlaw24_same.f k t384 t385 t386 bt454.1 bt454.2.1 bt454.2.2).bind fun t459 => (if t459 = true then (if t389 = 0 then ((imageeditorlaw24_values.f 3 (([65535, 0, 65535] : List Int))).bind fun bt463 => ((imageeditorlaw24_same.f k t391 t392 t393 bt463.1 bt463.2.1 bt463.2.2).bind fun t468 => (if t468 = true then (if t396 = 0 then ((imageeditorlaw24_values.f 3 (([65535, 32768, 65535] : List Int))).bind fun bt472 => ((imageeditorlaw24_same.f k t398 t399 t400 bt472.1 bt472.2.1 bt472.2.2).bind fun t477 => (if t477 = true then (if t403 = 0 then ((imageeditorlaw24_values.f 3 (([0, 0, 0] : List Int))).bind fun bt481 => ((imageeditorlaw24_same.f k t405 t406 t407 bt481.1 bt481.2.1 bt481.2.2).bind fun t486 => (if t486 = true then (if t410 = 0 then (if t417 = 24 then (if t424 = 2 then (some (t431 == 0)) else (some false)) else (some false)) else (some false)) else (some false)))) else (some false)) else (some false)))) else (some false)) else (some false)))) else (some false)) else (some false)))) = some r := by first | (rw [hy451]; with_reducible exact H) | (have H2_ := (Option.bind_some _ _).symm.trans H; rw [hy451]; with_reducible exact H2_) | (have H2_ := (Option.bind_some _ _).symm.trans H; with_reducible exact H2_) | with_reducible exact H | (rw [hy451]; exact H) | exact H
     have Ny451 := Aside0.mk hy451
     clear hy451
     replace H := Option.bind_eq_some_iff.mp H
     obtain ⟨⟨t454, t455, t456⟩, A200, H⟩ := H
     replace H : ((imageeditorlaw24_same.f k t384 t385 t386 t454 t455 t456).bind fun t459 => (if t459 = true then (if t389 = 0 then ((imageeditorlaw24_values.f 3 (([65535, 0, 65535] : List Int))).bind fun bt463 => ((imageeditorlaw24_same.f k t391 t392 t393 bt463.1 bt463.2.1 bt463.2.2).bind fun t468 => (if t468 = true then (if t396 = 0 then ((imageeditorlaw24_values.f 3 (([65535, 32768, 65535] : List Int))).bind fun bt472 => ((imageeditorlaw24_same.f k t398 t399 t400 bt472.1 bt472.2.1 bt472.2.2).bind fun t477 => (if t477 = true then (if t403 = 0 then ((imageeditorlaw24_values.f 3 (([0, 0, 0] : List Int))).bind fun bt481 => ((imageeditorlaw24_same.f k t405 t406 t407 bt481.1 bt481.2.1 bt481.2.2).bind fun t486 => (if t486 = true then (if t410 = 0 then (if t417 = 24 then (if t424 = 2 then (some (t431 == 0)) else (some false)) else (some false)) else (some false)) else (some false)))) else (some false)) else (some false)))) else (some false)) else (some false)))) else (some false)) else (some false))) = some r := H
     have A20 := Aside0.mk A200
     clear A200
     replace H := Option.bind_eq_some_iff.mp H
     obtain ⟨t459, A210, H⟩ := H
     replace H : (if t459 = true then (if t389 = 0 then ((imageeditorlaw24_values.f 3 (([65535, 0, 65535] : List Int))).bind fun bt463 => ((imageeditorlaw24_same.f k t391 t392 t393 bt463.1 bt463.2.1 bt463.2.2).bind fun t468 => (if t468 = true then (if t396 = 0 then ((imageeditorlaw24_values.f 3 (([65535, 32768, 65535] : List Int))).bind fun bt472 => ((imageeditorlaw24_same.f k t398 t399 t400 bt472.1 bt472.2.1 bt472.2.2).bind fun t477 => (if t477 = true then (if t403 = 0 then ((imageeditorlaw24_values.f 3 (([0, 0, 0] : List Int))).bind fun bt481 => ((imageeditorlaw24_same.f k t405 t406 t407 bt481.1 bt481.2.1 bt481.2.2).bind fun t486 => (if t486 = true then (if t410 = 0 then (if t417 = 24 then (if t424 = 2 then (some (t431 == 0)) else (some false)) else (some false)) else (some false)) else (some false)))) else (some false)) else (some false)))) else (some false)) else (some false)))) else (some false)) else (some false)) = some r := H
     have A21 := Aside0.mk A210
     clear A210
     by_cases c22 : t459 = true
     ·subst c22
      have H1 : (if t389 = 0 then ((imageeditorlaw24_values.f 3 (([65535, 0, 65535] : List Int))).bind fun bt463 => ((imageeditorlaw24_same.f k t391 t392 t393 bt463.1 bt463.2.1 bt463.2.2).bind fun t468 => (if t468 = true then (if t396 = 0 then ((imageeditorlaw24_values.f 3 (([65535, 32768, 65535] : List Int))).bind fun bt472 => ((imageeditorlaw24_same.f k t398 t399 t400 bt472.1 bt472.2.1 bt472.2.2).bind fun t477 => (if t477 = true then (if t403 = 0 then ((imageeditorlaw24_values.f 3 (([0, 0, 0] : List Int))).bind fun bt481 => ((imageeditorlaw24_same.f k t405 t406 t407 bt481.1 bt481.2.1 bt481.2.2).bind fun t486 => (if t486 = true then (if t410 = 0 then (if t417 = 24 then (if t424 = 2 then (some (t431 == 0)) else (some false)) else (some false)) else (some false)) else (some false)))) else (some false)) else (some false)))) else (some false)) else (some false)))) else (some false)) = some r := by rw [if_pos rfl] at H; exact H
      clear H
      have H := H1
      clear H1
      by_cases c23 : t389 = 0
      ·rw [if_pos c23] at H
       have c23b0 : (t389 == 0) = true := beq_iff_eq.mpr c23
       have c23b1 : (t389 != 0) = false := bne_eq_false_iff_eq.mpr c23
       clear c23
       obtain ⟨y460, hy460⟩ : ∃ y_ : List Int, y_ = (([65535, 0, 65535] : List Int)) := ⟨_, rfl⟩
       replace H : ((imageeditorlaw24_values.f 3 y460).bind fun bt463 => ((imageeditorlaw24_same.f k t391 t392 t393 bt463.1 bt463.2.1 bt463.2.2).bind fun t468 => (if t468 = true then (if t396 = 0 then ((imageeditorlaw24_values.f 3 (([65535, 32768, 65535] : List Int))).bind fun bt472 => ((imageeditorlaw24_same.f k t398 t399 t400 bt472.1 bt472.2.1 bt472.2.2).bind fun t477 => (if t477 = true then (if t403 = 0 then ((imageeditorlaw24_values.f 3 (([0, 0, 0] : List Int))).bind fun bt481 => ((imageeditorlaw24_same.f k t405 t406 t407 bt481.1 bt481.2.1 bt481.2.2).bind fun t486 => (if t486 = true then (if t410 = 0 then (if t417 = 24 then (if t424 = 2 then (some (t431 == 0)) else (some false)) else (some false)) else (some false)) else (some false)))) else (some false)) else (some false)))) else (some false)) else (some false)))) = some r := by first | (rw [hy460]; with_reducible exact H) | (have H2_ := (Option.bind_some _ _).symm.trans H; rw [hy460]; with_reducible exact H2_) | (have H2_ := (Option.bind_some _ _).symm.trans H; with_reducible exact H2_) | with_reducible exact H | (rw [hy460]; exact H) | exact H
       have Ny460 := Aside0.mk hy460
       clear hy460
       replace H := Option.bind_eq_some_iff.mp H
       obtain ⟨⟨t463, t464, t465⟩, A240, H⟩ := H
       replace H : ((imageeditorlaw24_same.f k t391 t392 t393 t463 t464 t465).bind fun t468 => (if t468 = true then (if t396 = 0 then ((imageeditorlaw24_values.f 3 (([65535, 32768, 65535] : List Int))).bind fun bt472 => ((imageeditorlaw24_same.f k t398 t399 t400 bt472.1 bt472.2.1 bt472.2.2).bind fun t477 => (if t477 = true then (if t403 = 0 then ((imageeditorlaw24_values.f 3 (([0, 0, 0] : List Int))).bind fun bt481 => ((imageeditorlaw24_same.f k t405 t406 t407 bt481.1 bt481.2.1 bt481.2.2).bind fun t486 => (if t486 = true then (if t410 = 0 then (if t417 = 24 then (if t424 = 2 then (some (t431 == 0)) else (some false)) else (some false)) else (some false)) else (some false)))) else (some false)) else (some false)))) else (some false)) else (some false))) = some r := H
       have A24 := Aside0.mk A240
       clear A240
       replace H := Option.bind_eq_some_iff.mp H
       obtain ⟨t468, A250, H⟩ := H
       replace H : (if t468 = true then (if t396 = 0 then ((imageeditorlaw24_values.f 3 (([65535, 32768, 65535] : List Int))).bind fun bt472 => ((imageeditorlaw24_same.f k t398 t399 t400 bt472.1 bt472.2.1 bt472.2.2).bind fun t477 => (if t477 = true then (if t403 = 0 then ((imageeditorlaw24_values.f 3 (([0, 0, 0] : List Int))).bind fun bt481 => ((imageeditorlaw24_same.f k t405 t406 t407 bt481.1 bt481.2.1 bt481.2.2).bind fun t486 => (if t486 = true then (if t410 = 0 then (if t417 = 24 then (if t424 = 2 then (some (t431 == 0)) else (some false)) else (some false)) else (some false)) else (some false)))) else (some false)) else (some false)))) else (some false)) else (some false)) = some r := H
       have A25 := Aside0.mk A250
       clear A250
       by_cases c26 : t468 = true
       ·subst c26
        have H1 : (if t396 = 0 then ((imageeditorlaw24_values.f 3 (([65535, 32768, 65535] : List Int))).bind fun bt472 => ((imageeditorlaw24_same.f k t398 t399 t400 bt472.1 bt472.2.1 bt472.2.2).bind fun t477 => (if t477 = true then (if t403 = 0 then ((imageeditorlaw24_values.f 3 (([0, 0, 0] : List Int))).bind fun bt481 => ((imageeditorlaw24_same.f k t405 t406 t407 bt481.1 bt481.2.1 bt481.2.2).bind fun t486 => (if t486 = true then (if t410 = 0 then (if t417 = 24 then (if t424 = 2 then (some (t431 == 0)) else (some false)) else (some false)) else (some false)) else (some false)))) else (some false)) else (some false)))) else (some false)) = some r := by rw [if_pos rfl] at H; exact H
        clear H
        have H := H1
        clear H1
        by_cases c27 : t396 = 0
        ·rw [if_pos c27] at H
         have c27b0 : (t396 == 0) = true := beq_iff_eq.mpr c27
         have c27b1 : (t396 != 0) = false := bne_eq_false_iff_eq.mpr c27
         clear c27
         obtain ⟨y469, hy469⟩ : ∃ y_ : List Int, y_ = (([65535, 32768, 65535] : List Int)) := ⟨_, rfl⟩
         replace H : ((imageeditorlaw24_values.f 3 y469).bind fun bt472 => ((imageeditorlaw24_same.f k t398 t399 t400 bt472.1 bt472.2.1 bt472.2.2).bind fun t477 => (if t477 = true then (if t403 = 0 then ((imageeditorlaw24_values.f 3 (([0, 0, 0] : List Int))).bind fun bt481 => ((imageeditorlaw24_same.f k t405 t406 t407 bt481.1 bt481.2.1 bt481.2.2).bind fun t486 => (if t486 = true then (if t410 = 0 then (if t417 = 24 then (if t424 = 2 then (some (t431 == 0)) else (some false)) else (some false)) else (some false)) else (some false)))) else (some false)) else (some false)))) = some r := by first | (rw [hy469]; with_reducible exact H) | (have H2_ := (Option.bind_some _ _).symm.trans H; rw [hy469]; with_reducible exact H2_) | (have H2_ := (Option.bind_some _ _).symm.trans H; with_reducible exact H2_) | with_reducible exact H | (rw [hy469]; exact H) | exact H
         have Ny469 := Aside0.mk hy469
         clear hy469
         replace H := Option.bind_eq_some_iff.mp H
         obtain ⟨⟨t472, t473, t474⟩, A280, H⟩ := H
         replace H : ((imageeditorlaw24_same.f k t398 t399 t400 t472 t473 t474).bind fun t477 => (if t477 = true then (if t403 = 0 then ((imageeditorlaw24_values.f 3 (([0, 0, 0] : List Int))).bind fun bt481 => ((imageeditorlaw24_same.f k t405 t406 t407 bt481.1 bt481.2.1 bt481.2.2).bind fun t486 => (if t486 = true then (if t410 = 0 then (if t417 = 24 then (if t424 = 2 then (some (t431 == 0)) else (some false)) else (some false)) else (some false)) else (some false)))) else (some false)) else (some false))) = some r := H
         have A28 := Aside0.mk A280
         clear A280
         replace H := Option.bind_eq_some_iff.mp H
         obtain ⟨t477, A290, H⟩ := H
         replace H : (if t477 = true then (if t403 = 0 then ((imageeditorlaw24_values.f 3 (([0, 0, 0] : List Int))).bind fun bt481 => ((imageeditorlaw24_same.f k t405 t406 t407 bt481.1 bt481.2.1 bt481.2.2).bind fun t486 => (if t486 = true then (if t410 = 0 then (if t417 = 24 then (if t424 = 2 then (some (t431 == 0)) else (some false)) else (some false)) else (some false)) else (some false)))) else (some false)) else (some false)) = some r := H
         have A29 := Aside0.mk A290
         clear A290
         by_cases c30 : t477 = true
         ·subst c30
          have H1 : (if t403 = 0 then ((imageeditorlaw24_values.f 3 (([0, 0, 0] : List Int))).bind fun bt481 => ((imageeditorlaw24_same.f k t405 t406 t407 bt481.1 bt481.2.1 bt481.2.2).bind fun t486 => (if t486 = true then (if t410 = 0 then (if t417 = 24 then (if t424 = 2 then (some (t431 == 0)) else (some false)) else (some false)) else (some false)) else (some false)))) else (some false)) = some r := by rw [if_pos rfl] at H; exact H
          clear H
          have H := H1
          clear H1
          by_cases c31 : t403 = 0
          ·rw [if_pos c31] at H
           have c31b0 : (t403 == 0) = true := beq_iff_eq.mpr c31
           have c31b1 : (t403 != 0) = false := bne_eq_false_iff_eq.mpr c31
           clear c31
           obtain ⟨y478, hy478⟩ : ∃ y_ : List Int, y_ = (([0, 0, 0] : List Int)) := ⟨_, rfl⟩
           replace H : ((imageeditorlaw24_values.f 3 y478).bind fun bt481 => ((imageeditorlaw24_same.f k t405 t406 t407 bt481.1 bt481.2.1 bt481.2.2).bind fun t486 => (if t486 = true then (if t410 = 0 then (if t417 = 24 then (if t424 = 2 then (some (t431 == 0)) else (some false)) else (some false)) else (some false)) else (some false)))) = some r := by first | (rw [hy478]; with_reducible exact H) | (have H2_ := (Option.bind_some _ _).symm.trans H; rw [hy478]; with_reducible exact H2_) | (have H2_ := (Option.bind_some _ _).symm.trans H; with_reducible exact H2_) | with_reducible exact H | (rw [hy478]; exact H) | exact H
           have Ny478 := Aside0.mk hy478
           clear hy478
           replace H := Option.bind_eq_some_iff.mp H
           obtain ⟨⟨t481, t482, t483⟩, A320, H⟩ := H
           replace H : ((imageeditorlaw24_same.f k t405 t406 t407 t481 t482 t483).bind fun t486 => (if t486 = true then (if t410 = 0 then (if t417 = 24 then (if t424 = 2 then (some (t431 == 0)) else (some false)) else (some false)) else (some false)) else (some false))) = some r := H
           have A32 := Aside0.mk A320
           clear A320
           replace H := Option.bind_eq_some_iff.mp H
           obtain ⟨t486, A330, H⟩ := H
           replace H : (if t486 = true then (if t410 = 0 then (if t417 = 24 then (if t424 = 2 then (some (t431 == 0)) else (some false)) else (some false)) else (some false)) else (some false)) = some r := H
           have A33 := Aside0.mk A330
           clear A330
           by_cases c34 : t486 = true
           ·subst c34
            have H1 : (if t410 = 0 then (if t417 = 24 then (if t424 = 2 then (some (t431 == 0)) else (some false)) else (some false)) else (some false)) = some r := by rw [if_pos rfl] at H; exact H
            clear H
            have H := H1
            clear H1
            by_cases c35 : t410 = 0
            ·rw [if_pos c35] at H
             have c35b0 : (t410 == 0) = true := beq_iff_eq.mpr c35
             have c35b1 : (t410 != 0) = false := bne_eq_false_iff_eq.mpr c35
             clear c35
             by_cases c36 : t417 = 24
             ·rw [if_pos c36] at H
              have c36b0 : (t417 == 24) = true := beq_iff_eq.mpr c36
              have c36b1 : (t417 != 24) = false := bne_eq_false_iff_eq.mpr c36
              clear c36
              by_cases c37 : t424 = 2
              ·rw [if_pos c37] at H
               have c37b0 : (t424 == 2) = true := beq_iff_eq.mpr c37
               have c37b1 : (t424 != 2) = false := bne_eq_false_iff_eq.mpr c37
               clear c37
               obtain rfl := Option.some.inj H
               go_enter Try.func12, Try.ntmps12
               try go_wp2_with (first | ((with_reducible refine gate_dst (N := 22) rfl ?_); (try (refine gate_guard (by rfl) ?_; dsimp only)); refine Kd.R_lit (Kd.int .i64) _ 3 ?hg (N := 22) ?hd (xs := ([0, 5, 0] : List Int)) (inner := [.int .i64 0, .int .i64 5, .int .i64 0]) (ok := fun _ => True) (okp := fun _ => True) ?hr ?hp (fun _ hk => hk) trivial (Below.refl _ _) (Nat.le_refl _) (by simp) ?_; (case hd => rfl); (case hg => rfl); (case hr => first | (go_simp; done) | (go_simp; rfl)); (case hp => exact (Reps.one (show Kd.M (Kd.int .i64) _ _ _ 0 [.int .i64 0] from rfl) (Reps.one (show Kd.M (Kd.int .i64) _ _ _ 5 [.int .i64 5] from rfl) (Reps.one (show Kd.M (Kd.int .i64) _ _ _ 0 [.int .i64 0] from rfl) (Reps.none _ _))))); intro v353 w38 ho39 hb hg_ hnew_; clear hg_ hnew_; (first | rw [← Ny352.out] at ho39 | (simp only [Int.reduceToNat] at ho39; rw [← Ny352.out] at ho39)); have HO354 := zl HB ho39; replace HB := zb HB hb; clear hb ho39; obtain ⟨Ao40, co40, eo40⟩ := Kd.R_slice HO354.out; subst eo40) | ((with_reducible refine gate_callee (f := 28) rfl ?_); refine goesL_ (some 23) rfl rfl Try.func28 (by kernel_rfl) rfl #[.int .i64 3, .slice Ao40 y352.length co40] rfl (by (try simp only [List.map_toArray, List.map_cons, List.map_nil]); first | done | rfl | (simp only [List.length_drop, List.length_take]; rfl)) ?_; (with_reducible refine (imageeditorlaw24_reds.calls k 3 _ _ y352 t355 t356 t357 _ ?side1 ?side2 A1.out).mono ?_); (case side1 => repeat (first | exact (Kd.R_reads' HO354.out).2.2 | (with_reducible refine Kd.C_alloc ?_ _) | (with_reducible refine Kd.C_drewN ?_ _) | (with_reducible refine Kd.C_drew ?_))); (case side2 => exact (Kd.R_reads' HO354.out).2.1); rintro e w41 ⟨v358, rfl, ho0, hb⟩; refine ⟨_, rfl, ?_⟩; have HO359 := zl HB ho0; replace HO354 := zr HO354 hb; replace HB := zb HB hb; (try clear hb); (try clear hb2); (try clear hk); (try clear hi); (try clear ho0); (try clear HO354)) | ((with_reducible refine gate_dst (N := 24) rfl ?_); (try (refine gate_guard (by rfl) ?_; dsimp only)); refine Kd.R_lit (Kd.int .i64) _ 3 ?hg (N := 24) ?hd (xs := ([0, 9, 9, 0] : List Int)) (inner := [.int .i64 0, .int .i64 9, .int .i64 9, .int .i64 0]) (ok := fun _ => True) (okp := fun _ => True) ?hr ?hp (fun _ hk => hk) trivial (Below.refl _ _) (Nat.le_refl _) (by simp) ?_; (case hd => rfl); (case hg => rfl); (case hr => first | (go_simp; done) | (go_simp; rfl)); (case hp => exact (Reps.one (show Kd.M (Kd.int .i64) _ _ _ 0 [.int .i64 0] from rfl) (Reps.one (show Kd.M (Kd.int .i64) _ _ _ 9 [.int .i64 9] from rfl) (Reps.one (show Kd.M (Kd.int .i64) _ _ _ 9 [.int .i64 9] from rfl) (Reps.one (show Kd.M (Kd.int .i64) _ _ _ 0 [.int .i64 0] from rfl) (Reps.none _ _)))))); intro v361 w42 ho43 hb hg_ hnew_; clear hg_ hnew_; (first | rw [← Ny360.out] at ho43 | (simp only [Int.reduceToNat] at ho43; rw [← Ny360.out] at ho43)); have HO362 := zl HB ho43; replace HO359 := zr HO359 hb; replace HB := zb HB hb; clear hb ho43; obtain ⟨Ao44, co44, eo44⟩ := Kd.R_slice HO362.out; subst eo44) | ((with_reducible refine gate_callee (f := 28) rfl ?_); refine goesL_ (some 25) rfl rfl Try.func28 (by kernel_rfl) rfl #[.int .i64 2, .slice Ao44 y360.length co44] rfl (by (try simp only [List.map_toArray, List.map_cons, List.map_nil]); first | done | rfl | (simp only [List.length_drop, List.length_take]; rfl)) ?_; (with_reducible refine (imageeditorlaw24_reds.calls k 2 _ _ y360 t363 t364 t365 _ ?side1 ?side2 A2.out).mono ?_); (case side1 => repeat (first | exact (Kd.R_reads' HO362.out).2.2 | (with_reducible refine Kd.C_alloc ?_ _) | (with_reducible refine Kd.C_drewN ?_ _) | (with_reducible refine Kd.C_drew ?_))); (case side2 => exact (Kd.R_reads' HO362.out).2.1); rintro e w45 ⟨v366, rfl, ho0, hb⟩; refine ⟨_, rfl, ?_⟩; have HO367 := zl HB ho0; replace HO359 := zr HO359 hb; replace HO362 := zr HO362 hb; replace HB := zb HB hb; (try clear hb); (try clear hb2); (try clear hk); (try clear hi); (try clear ho0); (try clear HO362)) | ((with_reducible refine gate_dst (N := 2) rfl ?_); (try (refine gate_guard (by rfl) ?_; dsimp only)); refine box_event ?hg (N := 2) ?hd (cs := #[.int .i64 0, .int .i64 0, .slice none 0 0]) (t := 24) ?hr ?_; (case hd => rfl); (case hg => rfl); (case hr => first | (go_simp; done) | (go_simp; rfl)); intro gb368 hg w46 hbox hb; have GW368 := zg HB hg; have GE368 := zg HB hg; have n0_ := Aside0.mk (hbox); replace HO359 := zr HO359 hb; replace HO367 := zr HO367 hb; replace HB := zb HB hb; have BK368 := n0_; clear n0_; clear hb hbox hg) | ((with_reducible refine gate_dst (N := 3) rfl ?_); (try (refine gate_guard (by rfl) ?_; dsimp only)); refine box_event ?hg (N := 3) ?hd (cs := #[.int .i64 0, .int .i64 0, .slice none 0 0]) (t := 24) ?hr ?_; (case hd => rfl); (case hg => rfl); (case hr => first | (go_simp; done) | (go_simp; rfl)); intro gb369 hg w47 hbox hb; have GW369 := zg HB hg; have GE369 := zg HB hg; have NB368_369 := zn BK368 hg; have NB369_368 := zn' BK368 hg; have n0_ := Aside0.mk (hbox); replace HO359 := zr HO359 hb; replace HO367 := zr HO367 hb; replace BK368 := zk BK368 hb; replace HB := zb HB hb; have BK369 := n0_; clear n0_; clear hb hbox hg; have hnb48 := NB368_369.out; have hnc48 := NB369_368.out; obtain ⟨hcz49_0, hcz49_1, hcz49_2, hfz49_0, hfz49_1, hfz49_2⟩ := zq3 BK368; obtain ⟨Ao50, co50, eo50⟩ := Kd.R_slice HO359.out; subst eo50; obtain ⟨hcz51_0, hcz51_1, hcz51_2, hfz51_0, hfz51_1, hfz51_2⟩ := zq3 BK369; obtain ⟨Ao52, co52, eo52⟩ := Kd.R_slice HO367.out; subst eo52) | ((with_reducible refine gate_callee (f := 9) rfl ?_); refine goesL_ (some 29) rfl rfl Try.func9 (by kernel_rfl) rfl #[.agg #[.int .i64 t355, .int .i64 t356, .slice Ao50 t357.length co50], .agg #[.int .i64 0, .int .i64 0], .int .i64 4, .bool false] rfl (by (try simp only [List.map_toArray, List.map_cons, List.map_nil]); first | done | rfl | (simp only [List.length_drop, List.length_take]; rfl)) ?_; (with_reducible refine (wand_Flood.calls k t355 t356 _ _ t357 0 0 4 false t370 t371 t372 t375 _ ?side1 ?side2 A3.out).mono ?_); (case side1 => refine (Kd.R_reads' (e := 37) (base := w.heap.size) (ok := fun k_ => True) (n := t357.length) (c := co50) ?_).2.2; exact (by (with_reducible repeat (first | apply Kd.R_alloc | apply Kd.R_drewN | apply Kd.R_drew)); exact (Kd.R_mono (Kd.R_mono (Kd.R_far (p := ⟨gb369, 2, none⟩) (Kd.R_far (p := ⟨gb369, 1, none⟩) (Kd.R_far (p := ⟨gb369, 0, none⟩) (Kd.R_far (p := ⟨gb368, 2, none⟩) (Kd.R_far (p := ⟨gb368, 1, none⟩) (Kd.R_far (p := ⟨gb368, 0, none⟩) (Kd.R_types (Kd.R_types HO359.out BK368.out (by decide)) BK369.out (by decide)) (fun _ hk => hk.1.2) (.int .i64 t355)) (fun _ hk => hk.1.2) (.int .i64 t356)) (fun _ hk => hk.1.2) (.slice Ao50 t357.length co50)) (fun _ hk => hk.2) (.int .i64 t363)) (fun _ hk => hk.2) (.int .i64 t364)) (fun _ hk => hk.2) (.slice Ao52 t365.length co52)) (fun _ h_ => h_.1)) (fun _ h_ => h_.1)))); (case side2 => exact (Kd.R_reads' HO359.out).2.1); rintro e w53 ⟨v373, rfl, ho0, hb⟩; refine ⟨_, rfl, ?_⟩; have n0_ := Aside0.mk (Kd.R_below (by (with_reducible repeat (first | apply Kd.R_alloc | apply Kd.R_drewN | apply Kd.R_drew)); exact (Kd.R_mono (Kd.R_mono (Kd.R_far (p := ⟨gb369, 2, none⟩) (Kd.R_far (p := ⟨gb369, 1, none⟩) (Kd.R_far (p := ⟨gb369, 0, none⟩) (Kd.R_far (p := ⟨gb368, 2, none⟩) (Kd.R_far (p := ⟨gb368, 1, none⟩) (Kd.R_far (p := ⟨gb368, 0, none⟩) (Kd.R_types (Kd.R_types HO359.out BK368.out (by decide)) BK369.out (by decide)) (fun _ hk => hk.1.2) (.int .i64 t355)) (fun _ hk => hk.1.2) (.int .i64 t356)) (fun _ hk => hk.1.2) (.slice Ao50 t357.length co50)) (fun _ hk => hk.2) (.int .i64 t363)) (fun _ hk => hk.2) (.int .i64 t364)) (fun _ hk => hk.2) (.slice Ao52 t365.length co52)) (fun _ h_ => h_.1)) (fun _ h_ => h_.1))) hb); have n1_ := Aside0.mk (Kd.R_below (by (with_reducible repeat (first | apply Kd.R_alloc | apply Kd.R_drewN | apply Kd.R_drew)); exact (Kd.R_mono (Kd.R_mono (Kd.R_far (p := ⟨gb369, 2, none⟩) (Kd.R_far (p := ⟨gb369, 1, none⟩) (Kd.R_far (p := ⟨gb369, 0, none⟩) (Kd.R_far (p := ⟨gb368, 2, none⟩) (Kd.R_far (p := ⟨gb368, 1, none⟩) (Kd.R_far (p := ⟨gb368, 0, none⟩) (Kd.R_types (Kd.R_types HO367.out BK368.out (by decide)) BK369.out (by decide)) (fun _ hk => hk.1.2) (.int .i64 t355)) (fun _ hk => hk.1.2) (.int .i64 t356)) (fun _ hk => hk.1.2) (.slice Ao50 t357.length co50)) (fun _ hk => hk.2) (.int .i64 t363)) (fun _ hk => hk.2) (.int .i64 t364)) (fun _ hk => hk.2) (.slice Ao52 t365.length co52)) (fun _ h_ => h_.1)) (fun _ h_ => h_.1))) hb); have n2_ := Aside0.mk (Kd.R_lower ho0 (below_size (by repeat (first | (with_reducible first | exact HB.out | apply below_alloc | apply pw_below_drewN | apply below_drew1 | refine below_set ?_ GE368.out | refine below_set ?_ GE369.out) | exact HB.out)))); have n3_ := Aside0.mk (blk_below (g := gb368) (o := .cells #[.int .i64 t355, .int .i64 t356, .slice Ao50 t357.length co50] 24 (0, 0)) (by (with_reducible repeat (first | refine blk_drewN ?_ _ | refine blk_drew ?_ | refine blk_alloc ?_ _)); refine blk_far ?_ NB368_369.out _; (with_reducible repeat (first | refine blk_drewN ?_ _ | refine blk_drew ?_ | refine blk_alloc ?_ _)); refine blk_far ?_ NB368_369.out _; (with_reducible repeat (first | refine blk_drewN ?_ _ | refine blk_drew ?_ | refine blk_alloc ?_ _)); refine blk_far ?_ NB368_369.out _; (with_reducible repeat (first | refine blk_drewN ?_ _ | refine blk_drew ?_ | refine blk_alloc ?_ _)); refine blk_put (cs := #[.int .i64 t355, .int .i64 t356, .slice none 0 0]) ?_ 2 _ rfl; (with_reducible repeat (first | refine blk_drewN ?_ _ | refine blk_drew ?_ | refine blk_alloc ?_ _)); refine blk_put (cs := #[.int .i64 t355, .int .i64 0, .slice none 0 0]) ?_ 1 _ rfl; (with_reducible repeat (first | refine blk_drewN ?_ _ | refine blk_drew ?_ | refine blk_alloc ?_ _)); refine blk_put (cs := #[.int .i64 0, .int .i64 0, .slice none 0 0]) ?_ 0 _ rfl; (with_reducible repeat (first | refine blk_drewN ?_ _ | refine blk_drew ?_ | refine blk_alloc ?_ _)); exact BK368.out) hb); have n4_ := Aside0.mk (blk_below (g := gb369) (o := .cells #[.int .i64 t363, .int .i64 t364, .slice Ao52 t365.length co52] 24 (0, 0)) (by (with_reducible repeat (first | refine blk_drewN ?_ _ | refine blk_drew ?_ | refine blk_alloc ?_ _)); refine blk_put (cs := #[.int .i64 t363, .int .i64 t364, .slice none 0 0]) ?_ 2 _ rfl; (with_reducible repeat (first | refine blk_drewN ?_ _ | refine blk_drew ?_ | refine blk_alloc ?_ _)); refine blk_put (cs := #[.int .i64 t363, .int .i64 0, .slice none 0 0]) ?_ 1 _ rfl; (with_reducible repeat (first | refine blk_drewN ?_ _ | refine blk_drew ?_ | refine blk_alloc ?_ _)); refine blk_put (cs := #[.int .i64 0, .int .i64 0, .slice none 0 0]) ?_ 0 _ rfl; (with_reducible repeat (first | refine blk_drewN ?_ _ | refine blk_drew ?_ | refine blk_alloc ?_ _)); refine blk_far ?_ NB369_368.out _; (with_reducible repeat (first | refine blk_drewN ?_ _ | refine blk_drew ?_ | refine blk_alloc ?_ _)); refine blk_far ?_ NB369_368.out _; (with_reducible repeat (first | refine blk_drewN ?_ _ | refine blk_drew ?_ | refine blk_alloc ?_ _)); refine blk_far ?_ NB369_368.out _; (with_reducible repeat (first | refine blk_drewN ?_ _ | refine blk_drew ?_ | refine blk_alloc ?_ _)); exact BK369.out) hb); have n5_ := Aside0.mk (below_step (by repeat (first | (with_reducible first | exact HB.out | apply below_alloc | apply pw_below_drewN | apply below_drew1 | refine below_set ?_ GE368.out | refine below_set ?_ GE369.out) | exact HB.out)) hb); clear HO359; clear HO367; clear BK368; clear BK369; clear HB; have HO359 := n0_; have HO367 := n1_; have HO374 := n2_; have BK368 := n3_; have BK369 := n4_; have HB := n5_; clear n0_ n1_ n2_ n3_ n4_ n5_; (try clear hb); (try clear hb2); (try clear hk); (try clear hi); (try clear ho0)) | ((with_reducible refine gate_dst (N := 4) rfl ?_); (try (refine gate_guard (by rfl) ?_; dsimp only)); refine box_event ?hg (N := 4) ?hd (cs := #[.int .i64 0, .int .i64 0, .slice none 0 0]) (t := 29) ?hr ?_; (case hd => rfl); (case hg => rfl); (case hr => first | (go_simp; done) | (go_simp; rfl)); intro gb376 hg w54 hbox hb; have GW376 := zg HB hg; have GE376 := zg HB hg; have NB368_376 := zn BK368 hg; have NB376_368 := zn' BK368 hg; have NB369_376 := zn BK369 hg; have NB376_369 := zn' BK369 hg; have n0_ := Aside0.mk (hbox); replace HO359 := zr HO359 hb; replace HO367 := zr HO367 hb; replace HO374 := zr HO374 hb; replace BK368 := zk BK368 hb; replace BK369 := zk BK369 hb; replace HB := zb HB hb; have BK376 := n0_; clear n0_; clear hb hbox hg; have hnb55 := NB376_368.out; have hnc55 := NB368_376.out; have hnb56 := NB376_369.out; have hnc56 := NB369_376.out; obtain ⟨hcz57_0, hcz57_1, hcz57_2, hfz57_0, hfz57_1, hfz57_2⟩ := zq3 BK376; obtain ⟨Ao58, co58, eo58⟩ := Kd.R_slice HO374.out; subst eo58; obtain ⟨hcz59_0, hcz59_1, hcz59_2, hfz59_0, hfz59_1, hfz59_2⟩ := zq3 BK368) | ((with_reducible refine gate_callee (f := 9) rfl ?_); refine goesL_ (some 35) rfl rfl Try.func9 (by kernel_rfl) rfl #[.agg #[.int .i64 t355, .int .i64 t356, .slice Ao50 t357.length co50], .agg #[.int .i64 0, .int .i64 0], .int .i64 5, .bool false] rfl (by (try simp only [List.map_toArray, List.map_cons, List.map_nil]); first | done | rfl | (simp only [List.length_drop, List.length_take]; rfl)) ?_; (with_reducible refine (wand_Flood.calls k t355 t356 _ _ t357 0 0 5 false t377 t378 t379 t382 _ ?side1 ?side2 A4.out).mono ?_); (case side1 => refine (Kd.R_reads' (e := 37) (base := w.heap.size) (ok := fun k_ => True) (n := t357.length) (c := co50) ?_).2.2; exact (by exact zro HO359 BK376 (by decide))); (case side2 => exact (Kd.R_reads' HO359.out).2.1); rintro e w60 ⟨v380, rfl, ho0, hb⟩; refine ⟨_, rfl, ?_⟩; have n0_ := Aside0.mk (Kd.R_below (by exact zro HO359 BK376 (by decide)) hb); have n1_ := Aside0.mk (Kd.R_below (by exact zro HO367 BK376 (by decide)) hb); have n2_ := Aside0.mk (Kd.R_below (by exact zro HO374 BK376 (by decide)) hb); have n3_ := Aside0.mk (Kd.R_lower ho0 (below_size (by exact zbo HB GE376))); have n4_ := Aside0.mk (blk_below (g := gb376) (o := .cells #[.int .i64 t370, .int .i64 t371, .slice Ao58 t372.length co58] 29 (0, 0)) (by exact zp BK376 rfl) hb); have n5_ := Aside0.mk (below_step (by exact zbo HB GE376) hb); replace BK368 := zfk BK368 NB368_376 hb; replace BK369 := zfk BK369 NB369_376 hb; clear HO359; clear HO367; clear HO374; clear BK376; clear HB; have HO359 := n0_; have HO367 := n1_; have HO374 := n2_; have HO381 := n3_; have BK376 := n4_; have HB := n5_; clear n0_ n1_ n2_ n3_ n4_ n5_; (try clear hb); (try clear hb2); (try clear hk); (try clear hi); (try clear ho0)) | ((with_reducible refine gate_dst (N := 6) rfl ?_); (try (refine gate_guard (by rfl) ?_; dsimp only)); refine box_event ?hg (N := 6) ?hd (cs := #[.int .i64 0, .int .i64 0, .slice none 0 0]) (t := 29) ?hr ?_; (case hd => rfl); (case hg => rfl); (case hr => first | (go_simp; done) | (go_simp; rfl)); intro gb383 hg w61 hbox hb; have GW383 := zg HB hg; have GE383 := zg HB hg; have NB368_383 := zn BK368 hg; have NB383_368 := zn' BK368 hg; have NB369_383 := zn BK369 hg; have NB383_369 := zn' BK369 hg; have NB376_383 := zn BK376 hg; have NB383_376 := zn' BK376 hg; have n0_ := Aside0.mk (hbox); replace HO359 := zr HO359 hb; replace HO367 := zr HO367 hb; replace HO374 := zr HO374 hb; replace HO381 := zr HO381 hb; replace BK368 := zk BK368 hb; replace BK369 := zk BK369 hb; replace BK376 := zk BK376 hb; replace HB := zb HB hb; have BK383 := n0_; clear n0_; clear hb hbox hg; have hnb62 := NB383_368.out; have hnc62 := NB368_383.out; have hnb63 := NB383_369.out; have hnc63 := NB369_383.out; have hnb64 := NB383_376.out; have hnc64 := NB376_383.out; obtain ⟨hcz65_0, hcz65_1, hcz65_2, hfz65_0, hfz65_1, hfz65_2⟩ := zq3 BK383; obtain ⟨Ao66, co66, eo66⟩ := Kd.R_slice HO381.out; subst eo66; obtain ⟨hcz67_0, hcz67_1, hcz67_2, hfz67_0, hfz67_1, hfz67_2⟩ := zq3 BK369) | ((with_reducible refine gate_callee (f := 9) rfl ?_); refine goesL_ (some 41) rfl rfl Try.func9 (by kernel_rfl) rfl #[.agg #[.int .i64 t363, .int .i64 t364, .slice Ao52 t365.length co52], .agg #[.int .i64 0, .int .i64 0], .int .i64 0, .bool true] rfl (by (try simp only [List.map_toArray, List.map_cons, List.map_nil]); first | done | rfl | (simp only [List.length_drop, List.length_take]; rfl)) ?_; (with_reducible refine (wand_Flood.calls k t363 t364 _ _ t365 0 0 0 true t384 t385 t386 t389 _ ?side1 ?side2 A5.out).mono ?_); (case side1 => refine (Kd.R_reads' (e := 37) (base := w.heap.size) (ok := fun k_ => True) (n := t365.length) (c := co52) ?_).2.2; exact (by exact zro HO367 BK383 (by decide))); (case side2 => exact (Kd.R_reads' HO367.out).2.1); rintro e w68 ⟨v387, rfl, ho0, hb⟩; refine ⟨_, rfl, ?_⟩; have n0_ := Aside0.mk (Kd.R_below (by exact zro HO359 BK383 (by decide)) hb); have n1_ := Aside0.mk (Kd.R_below (by exact zro HO367 BK383 (by decide)) hb); have n2_ := Aside0.mk (Kd.R_below (by exact zro HO374 BK383 (by decide)) hb); have n3_ := Aside0.mk (Kd.R_below (by exact zro HO381 BK383 (by decide)) hb); have n4_ := Aside0.mk (Kd.R_lower ho0 (below_size (by exact zbo HB GE383))); have n5_ := Aside0.mk (blk_below (g := gb383) (o := .cells #[.int .i64 t377, .int .i64 t378, .slice Ao66 t379.length co66] 29 (0, 0)) (by exact zp BK383 rfl) hb); have n6_ := Aside0.mk (below_step (by exact zbo HB GE383) hb); replace BK368 := zfk BK368 NB368_383 hb; replace BK369 := zfk BK369 NB369_383 hb; replace BK376 := zfk BK376 NB376_383 hb; clear HO359; clear HO367; clear HO374; clear HO381; clear BK383; clear HB; have HO359 := n0_; have HO367 := n1_; have HO374 := n2_; have HO381 := n3_; have HO388 := n4_; have BK383 := n5_; have HB := n6_; clear n0_ n1_ n2_ n3_ n4_ n5_ n6_; (try clear hb); (try clear hb2); (try clear hk); (try clear hi); (try clear ho0); (try clear HO367); (try clear BK369)) | ((with_reducible refine gate_dst (N := 8) rfl ?_); (try (refine gate_guard (by rfl) ?_; dsimp only)); refine box_event ?hg (N := 8) ?hd (cs := #[.int .i64 0, .int .i64 0, .slice none 0 0]) (t := 29) ?hr ?_; (case hd => rfl); (case hg => rfl); (case hr => first | (go_simp; done) | (go_simp; rfl)); intro gb390 hg w69 hbox hb; have GW390 := zg HB hg; have GE390 := zg HB hg; have NB368_390 := zn BK368 hg; have NB390_368 := zn' BK368 hg; have NB376_390 := zn BK376 hg; have NB390_376 := zn' BK376 hg; have NB383_390 := zn BK383 hg; have NB390_383 := zn' BK383 hg; have n0_ := Aside0.mk (hbox); replace HO359 := zr HO359 hb; replace HO374 := zr HO374 hb; replace HO381 := zr HO381 hb; replace HO388 := zr HO388 hb; replace BK368 := zk BK368 hb; replace BK376 := zk BK376 hb; replace BK383 := zk BK383 hb; replace HB := zb HB hb; have BK390 := n0_; clear n0_; clear hb hbox hg; have hnb70 := NB390_368.out; have hnc70 := NB368_390.out; have hnb71 := NB390_376.out; have hnc71 := NB376_390.out; have hnb72 := NB390_383.out; have hnc72 := NB383_390.out; obtain ⟨hcz73_0, hcz73_1, hcz73_2, hfz73_0, hfz73_1, hfz73_2⟩ := zq3 BK390; obtain ⟨Ao74, co74, eo74⟩ := Kd.R_slice HO388.out; subst eo74; obtain ⟨hcz75_0, hcz75_1, hcz75_2, hfz75_0, hfz75_1, hfz75_2⟩ := zq3 BK368) | ((with_reducible refine gate_callee (f := 13) rfl ?_); refine goesL_ (some 47) rfl rfl Try.func13 (by kernel_rfl) rfl #[.agg #[.int .i64 t355, .int .i64 t356, .slice Ao50 t357.length co50], .agg #[.int .i64 0, .int .i64 0, .int .i64 0, .int .i64 0], .int .i64 4] rfl (by (try simp only [List.map_toArray, List.map_cons, List.map_nil]); first | done | rfl | (simp only [List.length_drop, List.length_take]; rfl)) ?_; (with_reducible refine (wand_Similar.calls k t355 t356 _ _ t357 0 0 0 0 4 t391 t392 t393 t396 _ ?side1 ?side2 A6.out).mono ?_); (case side1 => refine (Kd.R_reads' (e := 37) (base := w.heap.size) (ok := fun k_ => True) (n := t357.length) (c := co50) ?_).2.2; exact (by exact zro HO359 BK390 (by decide))); (case side2 => exact (Kd.R_reads' HO359.out).2.1); rintro e w76 ⟨v394, rfl, ho0, hb⟩; refine ⟨_, rfl, ?_⟩; have n0_ := Aside0.mk (Kd.R_below (by exact zro HO359 BK390 (by decide)) hb); have n1_ := Aside0.mk (Kd.R_below (by exact zro HO374 BK390 (by decide)) hb); have n2_ := Aside0.mk (Kd.R_below (by exact zro HO381 BK390 (by decide)) hb); have n3_ := Aside0.mk (Kd.R_below (by exact zro HO388 BK390 (by decide)) hb); have n4_ := Aside0.mk (Kd.R_lower ho0 (below_size (by exact zbo HB GE390))); have n5_ := Aside0.mk (blk_below (g := gb390) (o := .cells #[.int .i64 t384, .int .i64 t385, .slice Ao74 t386.length co74] 29 (0, 0)) (by exact zp BK390 rfl) hb); have n6_ := Aside0.mk (below_step (by exact zbo HB GE390) hb); replace BK368 := zfk BK368 NB368_390 hb; replace BK376 := zfk BK376 NB376_390 hb; replace BK383 := zfk BK383 NB383_390 hb; clear HO359; clear HO374; clear HO381; clear HO388; clear BK390; clear HB; have HO359 := n0_; have HO374 := n1_; have HO381 := n2_; have HO388 := n3_; have HO395 := n4_; have BK390 := n5_; have HB := n6_; clear n0_ n1_ n2_ n3_ n4_ n5_ n6_; (try clear hb); (try clear hb2); (try clear hk); (try clear hi); (try clear ho0)) | ((with_reducible refine gate_dst (N := 10) rfl ?_); (try (refine gate_guard (by rfl) ?_; dsimp only)); refine box_event ?hg (N := 10) ?hd (cs := #[.int .i64 0, .int .i64 0, .slice none 0 0]) (t := 29) ?hr ?_; (case hd => rfl); (case hg => rfl); (case hr => first | (go_simp; done) | (go_simp; rfl)); intro gb397 hg w77 hbox hb; have GW397 := zg HB hg; have GE397 := zg HB hg; have NB368_397 := zn BK368 hg; have NB397_368 := zn' BK368 hg; have NB376_397 := zn BK376 hg; have NB397_376 := zn' BK376 hg; have NB383_397 := zn BK383 hg; have NB397_383 := zn' BK383 hg; have NB390_397 := zn BK390 hg; have NB397_390 := zn' BK390 hg; have n0_ := Aside0.mk (hbox); replace HO359 := zr HO359 hb; replace HO374 := zr HO374 hb; replace HO381 := zr HO381 hb; replace HO388 := zr HO388 hb; replace HO395 := zr HO395 hb; replace BK368 := zk BK368 hb; replace BK376 := zk BK376 hb; replace BK383 := zk BK383 hb; replace BK390 := zk BK390 hb; replace HB := zb HB hb; have BK397 := n0_; clear n0_; clear hb hbox hg; have hnb78 := NB397_368.out; have hnc78 := NB368_397.out; have hnb79 := NB397_376.out; have hnc79 := NB376_397.out; have hnb80 := NB397_383.out; have hnc80 := NB383_397.out; have hnb81 := NB397_390.out; have hnc81 := NB390_397.out; obtain ⟨hcz82_0, hcz82_1, hcz82_2, hfz82_0, hfz82_1, hfz82_2⟩ := zq3 BK397; obtain ⟨Ao83, co83, eo83⟩ := Kd.R_slice HO395.out; subst eo83; obtain ⟨hcz84_0, hcz84_1, hcz84_2, hfz84_0, hfz84_1, hfz84_2⟩ := zq3 BK368) | ((with_reducible refine gate_callee (f := 15) rfl ?_); refine goesL_ (some 53) rfl rfl Try.func15 (by kernel_rfl) rfl #[.agg #[.int .i64 t355, .int .i64 t356, .slice Ao50 t357.length co50], .agg #[.int .i64 0, .int .i64 0, .int .i64 0, .int .i64 0], .int .i64 0, .int .i64 10] rfl (by (try simp only [List.map_toArray, List.map_cons, List.map_nil]); first | done | rfl | (simp only [List.length_drop, List.length_take]; rfl)) ?_; (with_reducible refine (wand_Soft.calls k t355 t356 _ _ t357 0 0 0 0 0 10 t398 t399 t400 t403 _ ?side1 ?side2 A7.out).mono ?_); (case side1 => refine (Kd.R_reads' (e := 37) (base := w.heap.size) (ok := fun k_ => True) (n := t357.length) (c := co50) ?_).2.2; exact (by exact zro HO359 BK397 (by decide))); (case side2 => exact (Kd.R_reads' HO359.out).2.1); rintro e w85 ⟨v401, rfl, ho0, hb⟩; refine ⟨_, rfl, ?_⟩; have n0_ := Aside0.mk (Kd.R_below (by exact zro HO359 BK397 (by decide)) hb); have n1_ := Aside0.mk (Kd.R_below (by exact zro HO374 BK397 (by decide)) hb); have n2_ := Aside0.mk (Kd.R_below (by exact zro HO381 BK397 (by decide)) hb); have n3_ := Aside0.mk (Kd.R_below (by exact zro HO388 BK397 (by decide)) hb); have n4_ := Aside0.mk (Kd.R_below (by exact zro HO395 BK397 (by decide)) hb); have n5_ := Aside0.mk (Kd.R_lower ho0 (below_size (by exact zbo HB GE397))); have n6_ := Aside0.mk (blk_below (g := gb397) (o := .cells #[.int .i64 t391, .int .i64 t392, .slice Ao83 t393.length co83] 29 (0, 0)) (by exact zp BK397 rfl) hb); have n7_ := Aside0.mk (below_step (by exact zbo HB GE397) hb); replace BK368 := zfk BK368 NB368_397 hb; replace BK376 := zfk BK376 NB376_397 hb; replace BK383 := zfk BK383 NB383_397 hb; replace BK390 := zfk BK390 NB390_397 hb; clear HO359; clear HO374; clear HO381; clear HO388; clear HO395; clear BK397; clear HB; have HO359 := n0_; have HO374 := n1_; have HO381 := n2_; have HO388 := n3_; have HO395 := n4_; have HO402 := n5_; have BK397 := n6_; have HB := n7_; clear n0_ n1_ n2_ n3_ n4_ n5_ n6_ n7_; (try clear hb); (try clear hb2); (try clear hk); (try clear hi); (try clear ho0)) | ((with_reducible refine gate_dst (N := 12) rfl ?_); (try (refine gate_guard (by rfl) ?_; dsimp only)); refine box_event ?hg (N := 12) ?hd (cs := #[.int .i64 0, .int .i64 0, .slice none 0 0]) (t := 29) ?hr ?_; (case hd => rfl); (case hg => rfl); (case hr => first | (go_simp; done) | (go_simp; rfl)); intro gb404 hg w86 hbox hb; have GW404 := zg HB hg; have GE404 := zg HB hg; have NB368_404 := zn BK368 hg; have NB404_368 := zn' BK368 hg; have NB376_404 := zn BK376 hg; have NB404_376 := zn' BK376 hg; have NB383_404 := zn BK383 hg; have NB404_383 := zn' BK383 hg; have NB390_404 := zn BK390 hg; have NB404_390 := zn' BK390 hg; have NB397_404 := zn BK397 hg; have NB404_397 := zn' BK397 hg; have n0_ := Aside0.mk (hbox); replace HO359 := zr HO359 hb; replace HO374 := zr HO374 hb; replace HO381 := zr HO381 hb; replace HO388 := zr HO388 hb; replace HO395 := zr HO395 hb; replace HO402 := zr HO402 hb; replace BK368 := zk BK368 hb; replace BK376 := zk BK376 hb; replace BK383 := zk BK383 hb; replace BK390 := zk BK390 hb; replace BK397 := zk BK397 hb; replace HB := zb HB hb; have BK404 := n0_; clear n0_; clear hb hbox hg; have hnb87 := NB404_368.out; have hnc87 := NB368_404.out; have hnb88 := NB404_376.out; have hnc88 := NB376_404.out; have hnb89 := NB404_383.out; have hnc89 := NB383_404.out; have hnb90 := NB404_390.out; have hnc90 := NB390_404.out; have hnb91 := NB404_397.out; have hnc91 := NB397_404.out; obtain ⟨hcz92_0, hcz92_1, hcz92_2, hfz92_0, hfz92_1, hfz92_2⟩ := zq3 BK404; obtain ⟨Ao93, co93, eo93⟩ := Kd.R_slice HO402.out; subst eo93; obtain ⟨hcz94_0, hcz94_1, hcz94_2, hfz94_0, hfz94_1, hfz94_2⟩ := zq3 BK368) | ((with_reducible refine gate_callee (f := 17) rfl ?_); refine goesL_ (some 58) rfl rfl Try.func17 (by kernel_rfl) rfl #[.agg #[.int .i64 t355, .int .i64 t356, .slice Ao50 t357.length co50]] rfl (by (try simp only [List.map_toArray, List.map_cons, List.map_nil]); first | done | rfl | (simp only [List.length_drop, List.length_take]; rfl)) ?_; (with_reducible refine (wand_Opaque.calls k t355 t356 _ _ t357 t405 t406 t407 t410 _ ?side1 ?side2 A8.out).mono ?_); (case side1 => refine (Kd.R_reads' (e := 37) (base := w.heap.size) (ok := fun k_ => True) (n := t357.length) (c := co50) ?_).2.2; exact (by exact zro HO359 BK404 (by decide))); (case side2 => exact (Kd.R_reads' HO359.out).2.1); rintro e w95 ⟨v408, rfl, ho0, hb⟩; refine ⟨_, rfl, ?_⟩; have n0_ := Aside0.mk (Kd.R_below (by exact zro HO359 BK404 (by decide)) hb); have n1_ := Aside0.mk (Kd.R_below (by exact zro HO374 BK404 (by decide)) hb); have n2_ := Aside0.mk (Kd.R_below (by exact zro HO381 BK404 (by decide)) hb); have n3_ := Aside0.mk (Kd.R_below (by exact zro HO388 BK404 (by decide)) hb); have n4_ := Aside0.mk (Kd.R_below (by exact zro HO395 BK404 (by decide)) hb); have n5_ := Aside0.mk (Kd.R_below (by exact zro HO402 BK404 (by decide)) hb); have n6_ := Aside0.mk (Kd.R_lower ho0 (below_size (by exact zbo HB GE404))); have n7_ := Aside0.mk (blk_below (g := gb404) (o := .cells #[.int .i64 t398, .int .i64 t399, .slice Ao93 t400.length co93] 29 (0, 0)) (by exact zp BK404 rfl) hb); have n8_ := Aside0.mk (below_step (by exact zbo HB GE404) hb); replace BK368 := zfk BK368 NB368_404 hb; replace BK376 := zfk BK376 NB376_404 hb; replace BK383 := zfk BK383 NB383_404 hb; replace BK390 := zfk BK390 NB390_404 hb; replace BK397 := zfk BK397 NB397_404 hb; clear HO359; clear HO374; clear HO381; clear HO388; clear HO395; clear HO402; clear BK404; clear HB; have HO359 := n0_; have HO374 := n1_; have HO381 := n2_; have HO388 := n3_; have HO395 := n4_; have HO402 := n5_; have HO409 := n6_; have BK404 := n7_; have HB := n8_; clear n0_ n1_ n2_ n3_ n4_ n5_ n6_ n7_ n8_; (try clear hb); (try clear hb2); (try clear hk); (try clear hi); (try clear ho0)) | ((with_reducible refine gate_dst (N := 14) rfl ?_); (try (refine gate_guard (by rfl) ?_; dsimp only)); refine box_event ?hg (N := 14) ?hd (cs := #[.int .i64 0, .int .i64 0, .slice none 0 0]) (t := 29) ?hr ?_; (case hd => rfl); (case hg => rfl); (case hr => first | (go_simp; done) | (go_simp; rfl)); intro gb411 hg w96 hbox hb; have GW411 := zg HB hg; have GE411 := zg HB hg; have NB368_411 := zn BK368 hg; have NB411_368 := zn' BK368 hg; have NB376_411 := zn BK376 hg; have NB411_376 := zn' BK376 hg; have NB383_411 := zn BK383 hg; have NB411_383 := zn' BK383 hg; have NB390_411 := zn BK390 hg; have NB411_390 := zn' BK390 hg; have NB397_411 := zn BK397 hg; have NB411_397 := zn' BK397 hg; have NB404_411 := zn BK404 hg; have NB411_404 := zn' BK404 hg; have n0_ := Aside0.mk (hbox); replace HO359 := zr HO359 hb; replace HO374 := zr HO374 hb; replace HO381 := zr HO381 hb; replace HO388 := zr HO388 hb; replace HO395 := zr HO395 hb; replace HO402 := zr HO402 hb; replace HO409 := zr HO409 hb; replace BK368 := zk BK368 hb; replace BK376 := zk BK376 hb; replace BK383 := zk BK383 hb; replace BK390 := zk BK390 hb; replace BK397 := zk BK397 hb; replace BK404 := zk BK404 hb; replace HB := zb HB hb; have BK411 := n0_; clear n0_; clear hb hbox hg; have hnb97 := NB411_368.out; have hnc97 := NB368_411.out; have hnb98 := NB411_376.out; have hnc98 := NB376_411.out; have hnb99 := NB411_383.out; have hnc99 := NB383_411.out; have hnb100 := NB411_390.out; have hnc100 := NB390_411.out; have hnb101 := NB411_397.out; have hnc101 := NB397_411.out; have hnb102 := NB411_404.out; have hnc102 := NB404_411.out; obtain ⟨hcz103_0, hcz103_1, hcz103_2, hfz103_0, hfz103_1, hfz103_2⟩ := zq3 BK411; obtain ⟨Ao104, co104, eo104⟩ := Kd.R_slice HO409.out; subst eo104; obtain ⟨hcz105_0, hcz105_1, hcz105_2, hfz105_0, hfz105_1, hfz105_2⟩ := zq3 BK368) | ((with_reducible refine gate_callee (f := 15) rfl ?_); refine goesL_ (some 64) rfl rfl Try.func15 (by kernel_rfl) rfl #[.agg #[.int .i64 t355, .int .i64 t356, .slice Ao50 t357.length co50], .agg #[.int .i64 0, .int .i64 0, .int .i64 0, .int .i64 0], .int .i64 5, .int .i64 5] rfl (by (try simp only [List.map_toArray, List.map_cons, List.map_nil]); first | done | rfl | (simp only [List.length_drop, List.length_take]; rfl)) ?_; (with_reducible refine (wand_Soft.calls k t355 t356 _ _ t357 0 0 0 0 5 5 t412 t413 t414 t417 _ ?side1 ?side2 A9.out).mono ?_); (case side1 => refine (Kd.R_reads' (e := 37) (base := w.heap.size) (ok := fun k_ => True) (n := t357.length) (c := co50) ?_).2.2; exact (by exact zro HO359 BK411 (by decide))); (case side2 => exact (Kd.R_reads' HO359.out).2.1); rintro e w106 ⟨v415, rfl, ho0, hb⟩; refine ⟨_, rfl, ?_⟩; have n0_ := Aside0.mk (Kd.R_below (by exact zro HO359 BK411 (by decide)) hb); have n1_ := Aside0.mk (Kd.R_below (by exact zro HO374 BK411 (by decide)) hb); have n2_ := Aside0.mk (Kd.R_below (by exact zro HO381 BK411 (by decide)) hb); have n3_ := Aside0.mk (Kd.R_below (by exact zro HO388 BK411 (by decide)) hb); have n4_ := Aside0.mk (Kd.R_below (by exact zro HO395 BK411 (by decide)) hb); have n5_ := Aside0.mk (Kd.R_below (by exact zro HO402 BK411 (by decide)) hb); have n6_ := Aside0.mk (Kd.R_below (by exact zro HO409 BK411 (by decide)) hb); have n7_ := Aside0.mk (Kd.R_lower ho0 (below_size (by exact zbo HB GE411))); have n8_ := Aside0.mk (blk_below (g := gb411) (o := .cells #[.int .i64 t405, .int .i64 t406, .slice Ao104 t407.length co104] 29 (0, 0)) (by exact zp BK411 rfl) hb); have n9_ := Aside0.mk (below_step (by exact zbo HB GE411) hb); replace BK368 := zfk BK368 NB368_411 hb; replace BK376 := zfk BK376 NB376_411 hb; replace BK383 := zfk BK383 NB383_411 hb; replace BK390 := zfk BK390 NB390_411 hb; replace BK397 := zfk BK397 NB397_411 hb; replace BK404 := zfk BK404 NB404_411 hb; clear HO359; clear HO374; clear HO381; clear HO388; clear HO395; clear HO402; clear HO409; clear BK411; clear HB; have HO359 := n0_; have HO374 := n1_; have HO381 := n2_; have HO388 := n3_; have HO395 := n4_; have HO402 := n5_; have HO409 := n6_; have HO416 := n7_; have BK411 := n8_; have HB := n9_; clear n0_ n1_ n2_ n3_ n4_ n5_ n6_ n7_ n8_ n9_; (try clear hb); (try clear hb2); (try clear hk); (try clear hi); (try clear ho0); (try clear HO359); (try clear BK368)) | ((with_reducible refine gate_dst (N := 16) rfl ?_); (try (refine gate_guard (by rfl) ?_; dsimp only)); refine box_event ?hg (N := 16) ?hd (cs := #[.int .i64 0, .int .i64 0, .slice none 0 0]) (t := 29) ?hr ?_; (case hd => rfl); (case hg => rfl); (case hr => first | (go_simp; done) | (go_simp; rfl)); intro gb418 hg w107 hbox hb; have GW418 := zg HB hg; have GE418 := zg HB hg; have NB376_418 := zn BK376 hg; have NB418_376 := zn' BK376 hg; have NB383_418 := zn BK383 hg; have NB418_383 := zn' BK383 hg; have NB390_418 := zn BK390 hg; have NB418_390 := zn' BK390 hg; have NB397_418 := zn BK397 hg; have NB418_397 := zn' BK397 hg; have NB404_418 := zn BK404 hg; have NB418_404 := zn' BK404 hg; have NB411_418 := zn BK411 hg; have NB418_411 := zn' BK411 hg; have n0_ := Aside0.mk (hbox); replace HO374 := zr HO374 hb; replace HO381 := zr HO381 hb; replace HO388 := zr HO388 hb; replace HO395 := zr HO395 hb; replace HO402 := zr HO402 hb; replace HO409 := zr HO409 hb; replace HO416 := zr HO416 hb; replace BK376 := zk BK376 hb; replace BK383 := zk BK383 hb; replace BK390 := zk BK390 hb; replace BK397 := zk BK397 hb; replace BK404 := zk BK404 hb; replace BK411 := zk BK411 hb; replace HB := zb HB hb; have BK418 := n0_; clear n0_; clear hb hbox hg; have hnb108 := NB418_376.out; have hnc108 := NB376_418.out; have hnb109 := NB418_383.out; have hnc109 := NB383_418.out; have hnb110 := NB418_390.out; have hnc110 := NB390_418.out; have hnb111 := NB418_397.out; have hnc111 := NB397_418.out; have hnb112 := NB418_404.out; have hnc112 := NB404_418.out; have hnb113 := NB418_411.out; have hnc113 := NB411_418.out; obtain ⟨hcz114_0, hcz114_1, hcz114_2, hfz114_0, hfz114_1, hfz114_2⟩ := zq3 BK418; obtain ⟨Ao115, co115, eo115⟩ := Kd.R_slice HO416.out; subst eo115) | ((with_reducible refine gate_callee (f := 9) rfl ?_); refine goesL_ (some 70) rfl rfl Try.func9 (by kernel_rfl) rfl #[.agg #[.int .i64 0, .int .i64 0, .slice none 0 0], .agg #[.int .i64 0, .int .i64 0], .int .i64 0, .bool false] rfl (by (try simp only [List.map_toArray, List.map_cons, List.map_nil]); first | done | rfl | (simp only [List.length_drop, List.length_take]; rfl)) ?_; (refine (wand_Flood.calls k 0 0 _ _ ([] : List (S37)) 0 0 0 false t419 t420 t421 t424 _ ?side1 ?side2 A10.out).mono ?_); (case side1 => exact Kd.C_nil _ _); (case side2 => exact Nat.le_refl _); rintro e w116 ⟨v422, rfl, ho0, hb⟩; refine ⟨_, rfl, ?_⟩; have n0_ := Aside0.mk (Kd.R_below (by exact zro HO374 BK418 (by decide)) hb); have n1_ := Aside0.mk (Kd.R_below (by exact zro HO381 BK418 (by decide)) hb); have n2_ := Aside0.mk (Kd.R_below (by exact zro HO388 BK418 (by decide)) hb); have n3_ := Aside0.mk (Kd.R_below (by exact zro HO395 BK418 (by decide)) hb); have n4_ := Aside0.mk (Kd.R_below (by exact zro HO402 BK418 (by decide)) hb); have n5_ := Aside0.mk (Kd.R_below (by exact zro HO409 BK418 (by decide)) hb); have n6_ := Aside0.mk (Kd.R_below (by exact zro HO416 BK418 (by decide)) hb); have n7_ := Aside0.mk (Kd.R_lower ho0 (below_size (by exact zbo HB GE418))); have n8_ := Aside0.mk (blk_below (g := gb418) (o := .cells #[.int .i64 t412, .int .i64 t413, .slice Ao115 t414.length co115] 29 (0, 0)) (by exact zp BK418 rfl) hb); have n9_ := Aside0.mk (below_step (by exact zbo HB GE418) hb); replace BK376 := zfk BK376 NB376_418 hb; replace BK383 := zfk BK383 NB383_418 hb; replace BK390 := zfk BK390 NB390_418 hb; replace BK397 := zfk BK397 NB397_418 hb; replace BK404 := zfk BK404 NB404_418 hb; replace BK411 := zfk BK411 NB411_418 hb; clear HO374; clear HO381; clear HO388; clear HO395; clear HO402; clear HO409; clear HO416; clear BK418; clear HB; have HO374 := n0_; have HO381 := n1_; have HO388 := n2_; have HO395 := n3_; have HO402 := n4_; have HO409 := n5_; have HO416 := n6_; have HO423 := n7_; have BK418 := n8_; have HB := n9_; clear n0_ n1_ n2_ n3_ n4_ n5_ n6_ n7_ n8_ n9_; (try clear hb); (try clear hb2); (try clear hk); (try clear hi); (try clear ho0); (try clear HO416); (try clear BK418)) | ((with_reducible refine gate_dst (N := 18) rfl ?_); (try (refine gate_guard (by rfl) ?_; dsimp only)); refine box_event ?hg (N := 18) ?hd (cs := #[.int .i64 0, .int .i64 0, .slice none 0 0]) (t := 29) ?hr ?_; (case hd => rfl); (case hg => rfl); (case hr => first | (go_simp; done) | (go_simp; rfl)); intro gb425 hg w117 hbox hb; have GW425 := zg HB hg; have GE425 := zg HB hg; have NB376_425 := zn BK376 hg; have NB425_376 := zn' BK376 hg; have NB383_425 := zn BK383 hg; have NB425_383 := zn' BK383 hg; have NB390_425 := zn BK390 hg; have NB425_390 := zn' BK390 hg; have NB397_425 := zn BK397 hg; have NB425_397 := zn' BK397 hg; have NB404_425 := zn BK404 hg; have NB425_404 := zn' BK404 hg; have NB411_425 := zn BK411 hg; have NB425_411 := zn' BK411 hg; have n0_ := Aside0.mk (hbox); replace HO374 := zr HO374 hb; replace HO381 := zr HO381 hb; replace HO388 := zr HO388 hb; replace HO395 := zr HO395 hb; replace HO402 := zr HO402 hb; replace HO409 := zr HO409 hb; replace HO423 := zr HO423 hb; replace BK376 := zk BK376 hb; replace BK383 := zk BK383 hb; replace BK390 := zk BK390 hb; replace BK397 := zk BK397 hb; replace BK404 := zk BK404 hb; replace BK411 := zk BK411 hb; replace HB := zb HB hb; have BK425 := n0_; clear n0_; clear hb hbox hg; have hnb118 := NB425_376.out; have hnc118 := NB376_425.out; have hnb119 := NB425_383.out; have hnc119 := NB383_425.out; have hnb120 := NB425_390.out; have hnc120 := NB390_425.out; have hnb121 := NB425_397.out; have hnc121 := NB397_425.out; have hnb122 := NB425_404.out; have hnc122 := NB404_425.out; have hnb123 := NB425_411.out; have hnc123 := NB411_425.out; obtain ⟨hcz124_0, hcz124_1, hcz124_2, hfz124_0, hfz124_1, hfz124_2⟩ := zq3 BK425; obtain ⟨Ao125, co125, eo125⟩ := Kd.R_slice HO423.out; subst eo125) | ((with_reducible refine gate_callee (f := 13) rfl ?_); refine goesL_ (some 76) rfl rfl Try.func13 (by kernel_rfl) rfl #[.agg #[.int .i64 0, .int .i64 0, .slice none 0 0], .agg #[.int .i64 0, .int .i64 0, .int .i64 0, .int .i64 0], .int .i64 0] rfl (by (try simp only [List.map_toArray, List.map_cons, List.map_nil]); first | done | rfl | (simp only [List.length_drop, List.length_take]; rfl)) ?_; (refine (wand_Similar.calls k 0 0 _ _ ([] : List (S37)) 0 0 0 0 0 t426 t427 t428 t431 _ ?side1 ?side2 A11.out).mono ?_); (case side1 => exact Kd.C_nil _ _); (case side2 => exact Nat.le_refl _); rintro e w126 ⟨v429, rfl, ho0, hb⟩; refine ⟨_, rfl, ?_⟩; have n0_ := Aside0.mk (Kd.R_below (by exact zro HO374 BK425 (by decide)) hb); have n1_ := Aside0.mk (Kd.R_below (by exact zro HO381 BK425 (by decide)) hb); have n2_ := Aside0.mk (Kd.R_below (by exact zro HO388 BK425 (by decide)) hb); have n3_ := Aside0.mk (Kd.R_below (by exact zro HO395 BK425 (by decide)) hb); have n4_ := Aside0.mk (Kd.R_below (by exact zro HO402 BK425 (by decide)) hb); have n5_ := Aside0.mk (Kd.R_below (by exact zro HO409 BK425 (by decide)) hb); have n6_ := Aside0.mk (Kd.R_below (by exact zro HO423 BK425 (by decide)) hb); have n7_ := Aside0.mk (Kd.R_lower ho0 (below_size (by exact zbo HB GE425))); have n8_ := Aside0.mk (blk_below (g := gb425) (o := .cells #[.int .i64 t419, .int .i64 t420, .slice Ao125 t421.length co125] 29 (0, 0)) (by exact zp BK425 rfl) hb); have n9_ := Aside0.mk (below_step (by exact zbo HB GE425) hb); replace BK376 := zfk BK376 NB376_425 hb; replace BK383 := zfk BK383 NB383_425 hb; replace BK390 := zfk BK390 NB390_425 hb; replace BK397 := zfk BK397 NB397_425 hb; replace BK404 := zfk BK404 NB404_425 hb; replace BK411 := zfk BK411 NB411_425 hb; clear HO374; clear HO381; clear HO388; clear HO395; clear HO402; clear HO409; clear HO423; clear BK425; clear HB; have HO374 := n0_; have HO381 := n1_; have HO388 := n2_; have HO395 := n3_; have HO402 := n4_; have HO409 := n5_; have HO423 := n6_; have HO430 := n7_; have BK425 := n8_; have HB := n9_; clear n0_ n1_ n2_ n3_ n4_ n5_ n6_ n7_ n8_ n9_; (try clear hb); (try clear hb2); (try clear hk); (try clear hi); (try clear ho0); (try clear HO423); (try clear BK425)) | ((with_reducible refine gate_dst (N := 20) rfl ?_); (try (refine gate_guard (by rfl) ?_; dsimp only)); refine box_event ?hg (N := 20) ?hd (cs := #[.int .i64 0, .int .i64 0, .slice none 0 0]) (t := 29) ?hr ?_; (case hd => rfl); (case hg => rfl); (case hr => first | (go_simp; done) | (go_simp; rfl)); intro gb432 hg w127 hbox hb; have GW432 := zg HB hg; have GE432 := zg HB hg; have NB376_432 := zn BK376 hg; have NB432_376 := zn' BK376 hg; have NB383_432 := zn BK383 hg; have NB432_383 := zn' BK383 hg; have NB390_432 := zn BK390 hg; have NB432_390 := zn' BK390 hg; have NB397_432 := zn BK397 hg; have NB432_397 := zn' BK397 hg; have NB404_432 := zn BK404 hg; have NB432_404 := zn' BK404 hg; have NB411_432 := zn BK411 hg; have NB432_411 := zn' BK411 hg; have n0_ := Aside0.mk (hbox); replace HO374 := zr HO374 hb; replace HO381 := zr HO381 hb; replace HO388 := zr HO388 hb; replace HO395 := zr HO395 hb; replace HO402 := zr HO402 hb; replace HO409 := zr HO409 hb; replace HO430 := zr HO430 hb; replace BK376 := zk BK376 hb; replace BK383 := zk BK383 hb; replace BK390 := zk BK390 hb; replace BK397 := zk BK397 hb; replace BK404 := zk BK404 hb; replace BK411 := zk BK411 hb; replace HB := zb HB hb; have BK432 := n0_; clear n0_; clear hb hbox hg; have hnb128 := NB432_376.out; have hnc128 := NB376_432.out; have hnb129 := NB432_383.out; have hnc129 := NB383_432.out; have hnb130 := NB432_390.out; have hnc130 := NB390_432.out; have hnb131 := NB432_397.out; have hnc131 := NB397_432.out; have hnb132 := NB432_404.out; have hnc132 := NB404_432.out; have hnb133 := NB432_411.out; have hnc133 := NB411_432.out; obtain ⟨hcz134_0, hcz134_1, hcz134_2, hfz134_0, hfz134_1, hfz134_2⟩ := zq3 BK432; obtain ⟨Ao135, co135, eo135⟩ := Kd.R_slice HO430.out; subst eo135))
               have n0_ : Aside0 (Kd.R (Kd.int .i64) 3 (((w127.setCell ⟨gb432, 0, none⟩ (.int .i64 t426)).setCell ⟨gb432, 1, none⟩ (.int .i64 t427)).setCell ⟨gb432, 2, none⟩ (.slice Ao135 t428.length co135)) w.heap.size (fun _ => True) (.slice Ao58 t372.length co58) t372) := ⟨by exact zro HO374 BK432 (by decide)⟩
               have n1_ : Aside0 (Kd.R (Kd.int .i64) 3 (((w127.setCell ⟨gb432, 0, none⟩ (.int .i64 t426)).setCell ⟨gb432, 1, none⟩ (.int .i64 t427)).setCell ⟨gb432, 2, none⟩ (.slice Ao135 t428.length co135)) w.heap.size (fun _ => True) (.slice Ao66 t379.length co66) t379) := ⟨by exact zro HO381 BK432 (by decide)⟩
               have n2_ : Aside0 (Kd.R (Kd.int .i64) 3 (((w127.setCell ⟨gb432, 0, none⟩ (.int .i64 t426)).setCell ⟨gb432, 1, none⟩ (.int .i64 t427)).setCell ⟨gb432, 2, none⟩ (.slice Ao135 t428.length co135)) w.heap.size (fun _ => True) (.slice Ao74 t386.length co74) t386) := ⟨by exact zro HO388 BK432 (by decide)⟩
               have n3_ : Aside0 (Kd.R (Kd.int .i64) 3 (((w127.setCell ⟨gb432, 0, none⟩ (.int .i64 t426)).setCell ⟨gb432, 1, none⟩ (.int .i64 t427)).setCell ⟨gb432, 2, none⟩ (.slice Ao135 t428.length co135)) w.heap.size (fun _ => True) (.slice Ao83 t393.length co83) t393) := ⟨by exact zro HO395 BK432 (by decide)⟩
               have n4_ : Aside0 (Kd.R (Kd.int .i64) 3 (((w127.setCell ⟨gb432, 0, none⟩ (.int .i64 t426)).setCell ⟨gb432, 1, none⟩ (.int .i64 t427)).setCell ⟨gb432, 2, none⟩ (.slice Ao135 t428.length co135)) w.heap.size (fun _ => True) (.slice Ao93 t400.length co93) t400) := ⟨by exact zro HO402 BK432 (by decide)⟩
               have n5_ : Aside0 (Kd.R (Kd.int .i64) 3 (((w127.setCell ⟨gb432, 0, none⟩ (.int .i64 t426)).setCell ⟨gb432, 1, none⟩ (.int .i64 t427)).setCell ⟨gb432, 2, none⟩ (.slice Ao135 t428.length co135)) w.heap.size (fun _ => True) (.slice Ao104 t407.length co104) t407) := ⟨by exact zro HO409 BK432 (by decide)⟩
               have n6_ : Aside0 (Kd.R (Kd.int .i64) 3 (((w127.setCell ⟨gb432, 0, none⟩ (.int .i64 t426)).setCell ⟨gb432, 1, none⟩ (.int .i64 t427)).setCell ⟨gb432, 2, none⟩ (.slice Ao135 t428.length co135)) w.heap.size (fun _ => True) (.slice Ao135 t428.length co135) t428) := ⟨by exact zro HO430 BK432 (by decide)⟩
               have n7_ : Aside0 ((((w127.setCell ⟨gb432, 0, none⟩ (.int .i64 t426)).setCell ⟨gb432, 1, none⟩ (.int .i64 t427)).setCell ⟨gb432, 2, none⟩ (.slice Ao135 t428.length co135)).heap[gb376]? = some (.cells #[.int .i64 t370, .int .i64 t371, .slice Ao58 t372.length co58] 29 (0, 0))) := ⟨by exact zf BK376 NB376_432⟩
               have n8_ : Aside0 ((((w127.setCell ⟨gb432, 0, none⟩ (.int .i64 t426)).setCell ⟨gb432, 1, none⟩ (.int .i64 t427)).setCell ⟨gb432, 2, none⟩ (.slice Ao135 t428.length co135)).heap[gb383]? = some (.cells #[.int .i64 t377, .int .i64 t378, .slice Ao66 t379.length co66] 29 (0, 0))) := ⟨by exact zf BK383 NB383_432⟩
               have n9_ : Aside0 ((((w127.setCell ⟨gb432, 0, none⟩ (.int .i64 t426)).setCell ⟨gb432, 1, none⟩ (.int .i64 t427)).setCell ⟨gb432, 2, none⟩ (.slice Ao135 t428.length co135)).heap[gb390]? = some (.cells #[.int .i64 t384, .int .i64 t385, .slice Ao74 t386.length co74] 29 (0, 0))) := ⟨by exact zf BK390 NB390_432⟩
               have n10_ : Aside0 ((((w127.setCell ⟨gb432, 0, none⟩ (.int .i64 t426)).setCell ⟨gb432, 1, none⟩ (.int .i64 t427)).setCell ⟨gb432, 2, none⟩ (.slice Ao135 t428.length co135)).heap[gb397]? = some (.cells #[.int .i64 t391, .int .i64 t392, .slice Ao83 t393.length co83] 29 (0, 0))) := ⟨by exact zf BK397 NB397_432⟩
               have n11_ : Aside0 ((((w127.setCell ⟨gb432, 0, none⟩ (.int .i64 t426)).setCell ⟨gb432, 1, none⟩ (.int .i64 t427)).setCell ⟨gb432, 2, none⟩ (.slice Ao135 t428.length co135)).heap[gb404]? = some (.cells #[.int .i64 t398, .int .i64 t399, .slice Ao93 t400.length co93] 29 (0, 0))) := ⟨by exact zf BK404 NB404_432⟩
               have n12_ : Aside0 ((((w127.setCell ⟨gb432, 0, none⟩ (.int .i64 t426)).setCell ⟨gb432, 1, none⟩ (.int .i64 t427)).setCell ⟨gb432, 2, none⟩ (.slice Ao135 t428.length co135)).heap[gb411]? = some (.cells #[.int .i64 t405, .int .i64 t406, .slice Ao104 t407.length co104] 29 (0, 0))) := ⟨by exact zf BK411 NB411_432⟩
               have n13_ : Aside0 ((((w127.setCell ⟨gb432, 0, none⟩ (.int .i64 t426)).setCell ⟨gb432, 1, none⟩ (.int .i64 t427)).setCell ⟨gb432, 2, none⟩ (.slice Ao135 t428.length co135)).heap[gb432]? = some (.cells #[.int .i64 t426, .int .i64 t427, .slice Ao135 t428.length co135] 29 (0, 0))) := ⟨by exact zp BK432 rfl⟩
               have n14_ : Aside0 (Below w.heap.size w (((w127.setCell ⟨gb432, 0, none⟩ (.int .i64 t426)).setCell ⟨gb432, 1, none⟩ (.int .i64 t427)).setCell ⟨gb432, 2, none⟩ (.slice Ao135 t428.length co135))) := ⟨by exact zbo HB GE432⟩
               (try clear HO374)
               (try clear HO381)
               (try clear HO388)
               (try clear HO395)
               (try clear HO402)
               (try clear HO409)
               (try clear HO430)
               (try clear BK376)
               (try clear BK383)
               (try clear BK390)
               (try clear BK397)
               (try clear BK404)
               (try clear BK411)
               (try clear BK432)
               (try clear HB)
               generalize (((w127.setCell ⟨gb432, 0, none⟩ (.int .i64 t426)).setCell ⟨gb432, 1, none⟩ (.int .i64 t427)).setCell ⟨gb432, 2, none⟩ (.slice Ao135 t428.length co135)) = w136 at n0_ n1_ n2_ n3_ n4_ n5_ n6_ n7_ n8_ n9_ n10_ n11_ n12_ n13_ n14_ ⊢
               have HO374 := n0_
               have HO381 := n1_
               have HO388 := n2_
               have HO395 := n3_
               have HO402 := n4_
               have HO409 := n5_
               have HO430 := n6_
               have BK376 := n7_
               have BK383 := n8_
               have BK390 := n9_
               have BK397 := n10_
               have BK404 := n11_
               have BK411 := n12_
               have BK432 := n13_
               have HB := n14_
               clear n0_ n1_ n2_ n3_ n4_ n5_ n6_ n7_ n8_ n9_ n10_ n11_ n12_ n13_ n14_
               replace HO374 := zrd HO374
               replace HO381 := zrd HO381
               replace HO388 := zrd HO388
               replace HO395 := zrd HO395
               replace HO402 := zrd HO402
               replace HO409 := zrd HO409
               replace HO430 := zrd HO430
               replace BK376 := zkd BK376
               replace BK383 := zkd BK383
               replace BK390 := zkd BK390
               replace BK397 := zkd BK397
               replace BK404 := zkd BK404
               replace BK411 := zkd BK411
               replace BK432 := zkd BK432
               replace HB := zbd HB
               refine start_ (n := 81) (S := fun w' => w'.cell? ⟨gb376, 0, none⟩ = some (.int .i64 t370) ∧ w'.cell? ⟨gb376, 1, none⟩ = some (.int .i64 t371) ∧ w'.cell? ⟨gb376, 2, none⟩ = some (.slice Ao58 t372.length co58) ∧ w'.cell? ⟨gb383, 0, none⟩ = some (.int .i64 t377) ∧ w'.cell? ⟨gb383, 1, none⟩ = some (.int .i64 t378) ∧ w'.cell? ⟨gb383, 2, none⟩ = some (.slice Ao66 t379.length co66) ∧ w'.cell? ⟨gb390, 0, none⟩ = some (.int .i64 t384) ∧ w'.cell? ⟨gb390, 1, none⟩ = some (.int .i64 t385) ∧ w'.cell? ⟨gb390, 2, none⟩ = some (.slice Ao74 t386.length co74) ∧ w'.cell? ⟨gb397, 0, none⟩ = some (.int .i64 t391) ∧ w'.cell? ⟨gb397, 1, none⟩ = some (.int .i64 t392) ∧ w'.cell? ⟨gb397, 2, none⟩ = some (.slice Ao83 t393.length co83) ∧ w'.cell? ⟨gb404, 0, none⟩ = some (.int .i64 t398) ∧ w'.cell? ⟨gb404, 1, none⟩ = some (.int .i64 t399) ∧ w'.cell? ⟨gb404, 2, none⟩ = some (.slice Ao93 t400.length co93) ∧ w'.cell? ⟨gb411, 0, none⟩ = some (.int .i64 t405) ∧ w'.cell? ⟨gb411, 1, none⟩ = some (.int .i64 t406) ∧ w'.cell? ⟨gb411, 2, none⟩ = some (.slice Ao104 t407.length co104)) (ds := []) (bs 81 0) (by kernel_rfl) rfl rfl ⟨(blk_cell BK376.out 0).trans rfl, (blk_cell BK376.out 1).trans rfl, (blk_cell BK376.out 2).trans rfl, (blk_cell BK383.out 0).trans rfl, (blk_cell BK383.out 1).trans rfl, (blk_cell BK383.out 2).trans rfl, (blk_cell BK390.out 0).trans rfl, (blk_cell BK390.out 1).trans rfl, (blk_cell BK390.out 2).trans rfl, (blk_cell BK397.out 0).trans rfl, (blk_cell BK397.out 1).trans rfl, (blk_cell BK397.out 2).trans rfl, (blk_cell BK404.out 0).trans rfl, (blk_cell BK404.out 1).trans rfl, (blk_cell BK404.out 2).trans rfl, (blk_cell BK411.out 0).trans rfl, (blk_cell BK411.out 1).trans rfl, (blk_cell BK411.out 2).trans rfl⟩ (fun hHeld => ?_); refine with_tabW imageeditorlaw24_awake.tab12 imageeditorlaw24_awake.bits12 (fun HT_ HW_ => ?_)
               generalize w136.drew = w137 at HO374 HO381 HO388 HO395 HO402 HO409 HO430 BK376 BK383 BK390 BK397 BK404 BK411 BK432 HB HO374 HO381 HO388 HO395 HO402 HO409 HO430 hHeld ⊢
               refine pure_ (i := 1) (N := some 80) (v := ?_) (a' := ?_) (bs 81 2) rfl rfl (any_of HT_.out (by kernel_rfl)) (fun _ _ _ h => h) (Or.inl ⟨by rfl, ?_⟩) ?_ ?_
               rotate_left
               ·intro w'
                go_simp
                with_reducible rfl
               rotate_left
               ·simp only [Act.put, sA, sB, sC, i64_w, i32_w]
                rfl
               refine take_ (i := 0) (N := some 79) (v := ?_) (a' := ?_) (bs 81 3) rfl rfl (take_ofW HT_.out HW_.out (by kernel_rfl)) (fun _ _ _ h => h) (Or.inl ⟨by rfl, ?_⟩) hHeld ?_ ?_
               rotate_left
               ·rintro w' ⟨s0, s1, s2, s3, s4, s5, s6, s7, s8, s9, s10, s11, s12, s13, s14, s15, s16, s17⟩
                go_simp
                with_reducible rfl
               rotate_left
               ·simp only [Act.put, sA, sB, sC, i64_w, i32_w]
                rfl
               refine one_ (i := 2) (N := some 81) (bs 81 7) rfl rfl (one_of HT_.out (by kernel_rfl)) (by decide) (fun K hK => ?_)
               refine Kd.R_lit_step (Kd.int .i64) _ 3 ?hg (N := 81) ?hd (xs := ([65535, 0, 0] : List Int)) (inner := [.int .i64 65535, .int .i64 0, .int .i64 0]) (ok := fun _ => True) (okp := fun _ => True) ?hr ?hp (fun _ hk => hk) trivial (Below.refl _ _) (Nat.le_refl _) (by simp) ?_; (case hd => rfl); (case hg => rfl); (case hr => first | (go_simp; done) | (go_simp; rfl)); (case hp => exact (Reps.one (show Kd.M (Kd.int .i64) _ _ _ 65535 [.int .i64 65535] from rfl) (Reps.one (show Kd.M (Kd.int .i64) _ _ _ 0 [.int .i64 0] from rfl) (Reps.one (show Kd.M (Kd.int .i64) _ _ _ 0 [.int .i64 0] from rfl) (Reps.none _ _)))))
               intro v434 w138 ho139 hb hg_ hnew_
               clear hg_ hnew_
               (first | rw [← Ny433.out] at ho139 | (simp only [Int.reduceToNat] at ho139; rw [← Ny433.out] at ho139))
               have HO435 := zl HB ho139
               have n0_ := Aside0.mk (Kd.R_elder' (by exact zr0 HO374) (Kd.R_base ho139) hb)
               have n1_ := Aside0.mk (Kd.R_elder' (by exact zr0 HO381) (Kd.R_base ho139) hb)
               have n2_ := Aside0.mk (Kd.R_elder' (by exact zr0 HO388) (Kd.R_base ho139) hb)
               have n3_ := Aside0.mk (Kd.R_elder' (by exact zr0 HO395) (Kd.R_base ho139) hb)
               have n4_ := Aside0.mk (Kd.R_elder' (by exact zr0 HO402) (Kd.R_base ho139) hb)
               have n5_ := Aside0.mk (Kd.R_elder' (by exact zr0 HO409) (Kd.R_base ho139) hb)
               have n6_ := Aside0.mk (Kd.R_elder' (by exact zr0 HO430) (Kd.R_base ho139) hb)
               replace BK376 := zk BK376 hb
               replace BK383 := zk BK383 hb
               replace BK390 := zk BK390 hb
               replace BK397 := zk BK397 hb
               replace BK404 := zk BK404 hb
               replace BK411 := zk BK411 hb
               replace BK432 := zk BK432 hb
               replace HB := zb HB hb
               clear HO374
               clear HO381
               clear HO388
               clear HO395
               clear HO402
               clear HO409
               clear HO430
               have HO374 := n0_
               have HO381 := n1_
               have HO388 := n2_
               have HO395 := n3_
               have HO402 := n4_
               have HO409 := n5_
               have HO430 := n6_
               clear n0_ n1_ n2_ n3_ n4_ n5_ n6_
               clear hb ho139
               obtain ⟨Ao140, co140, eo140⟩ := Kd.R_slice HO435.out
               (first | subst eo140 | (injection eo140 with f1_ f2_ f3_; have f4_ := f1_.symm; have f5_ := f3_.symm; clear f1_ f2_ f3_; subst f4_; subst f5_))
               refine hK.out _ _ ⟨(blk_cell BK376.out 0).trans rfl, (blk_cell BK376.out 1).trans rfl, (blk_cell BK376.out 2).trans rfl, (blk_cell BK383.out 0).trans rfl, (blk_cell BK383.out 1).trans rfl, (blk_cell BK383.out 2).trans rfl, (blk_cell BK390.out 0).trans rfl, (blk_cell BK390.out 1).trans rfl, (blk_cell BK390.out 2).trans rfl, (blk_cell BK397.out 0).trans rfl, (blk_cell BK397.out 1).trans rfl, (blk_cell BK397.out 2).trans rfl, (blk_cell BK404.out 0).trans rfl, (blk_cell BK404.out 1).trans rfl, (blk_cell BK404.out 2).trans rfl, (blk_cell BK411.out 0).trans rfl, (blk_cell BK411.out 1).trans rfl, (blk_cell BK411.out 2).trans rfl⟩ (fun hHeld => ?_)
               clear hK K
               refine norm_ (a' := ?_) ?_ ?_
               rotate_left
               ·show Act.put _ (some 81) _ = _
                simp only [Act.put, sA, sB, sC, i64_w, i32_w]
                rfl
               refine one_ (i := 3) (N := some 82) (bs 81 15) rfl rfl (one_of HT_.out (by kernel_rfl)) (by decide) (fun K hK => ?_)
               refine goes_ Try.func29 (by kernel_rfl) rfl #[.int .i64 3, .slice Ao140 y433.length co140] (by rfl) rfl rfl (by (try simp only [List.map_toArray, List.map_cons, List.map_nil]); first | done | rfl | (simp only [List.length_drop, List.length_take]; rfl)) ?_
               with_reducible refine (imageeditorlaw24_values.calls 3 (fun k_ => some k_ = (.slice Ao140 y433.length co140 : Value).ownBlock) (.slice Ao140 y433.length co140) y433 t436 t437 t438 w _ ?side1 ?side2 A12.out).mono ?_
               (case side1 => exact zb0 HB)
               (case side2 => exact Kd.R_tight rfl HO435.out)
               rintro e w141 ⟨v439, rfl, ho0, hb, hkp⟩
               refine ⟨_, rfl, ?_⟩
               have n0_ := Aside0.mk (Kd.R_mono (ok' := fun k_ => True) (Kd.R_keptB (HO374.out) hkp (fun k_ hk_ hs_ => (hk_.2) hs_)) (fun k_ hk_ => trivial))
               have n1_ := Aside0.mk (blk_kept (by exact zk0 BK376) hkp (fun hs_ => (fun e_ => (Kd.R_ne HO435.out BK376.out (by decide)) e_) hs_))
               have n2_ := Aside0.mk (Kd.R_mono (ok' := fun k_ => True) (Kd.R_keptB (HO381.out) hkp (fun k_ hk_ hs_ => (hk_.2) hs_)) (fun k_ hk_ => trivial))
               have n3_ := Aside0.mk (blk_kept (by exact zk0 BK383) hkp (fun hs_ => (fun e_ => (Kd.R_ne HO435.out BK383.out (by decide)) e_) hs_))
               have n4_ := Aside0.mk (Kd.R_mono (ok' := fun k_ => True) (Kd.R_keptB (HO388.out) hkp (fun k_ hk_ hs_ => (hk_.2) hs_)) (fun k_ hk_ => trivial))
               have n5_ := Aside0.mk (blk_kept (by exact zk0 BK390) hkp (fun hs_ => (fun e_ => (Kd.R_ne HO435.out BK390.out (by decide)) e_) hs_))
               have n6_ := Aside0.mk (Kd.R_mono (ok' := fun k_ => True) (Kd.R_keptB (HO395.out) hkp (fun k_ hk_ hs_ => (hk_.2) hs_)) (fun k_ hk_ => trivial))
               have n7_ := Aside0.mk (blk_kept (by exact zk0 BK397) hkp (fun hs_ => (fun e_ => (Kd.R_ne HO435.out BK397.out (by decide)) e_) hs_))
               have n8_ := Aside0.mk (Kd.R_mono (ok' := fun k_ => True) (Kd.R_keptB (HO402.out) hkp (fun k_ hk_ hs_ => (hk_.2) hs_)) (fun k_ hk_ => trivial))
               have n9_ := Aside0.mk (blk_kept (by exact zk0 BK404) hkp (fun hs_ => (fun e_ => (Kd.R_ne HO435.out BK404.out (by decide)) e_) hs_))
               have n10_ := Aside0.mk (Kd.R_mono (ok' := fun k_ => True) (Kd.R_keptB (HO409.out) hkp (fun k_ hk_ hs_ => (hk_.2) hs_)) (fun k_ hk_ => trivial))
               have n11_ := Aside0.mk (blk_kept (by exact zk0 BK411) hkp (fun hs_ => (fun e_ => (Kd.R_ne HO435.out BK411.out (by decide)) e_) hs_))
               have n12_ := Aside0.mk (Kd.R_mono (ok' := fun k_ => True) (Kd.R_keptB (HO430.out) hkp (fun k_ hk_ hs_ => (hk_.2) hs_)) (fun k_ hk_ => trivial))
               have n13_ := Aside0.mk (blk_kept (by exact zk0 BK432) hkp (fun hs_ => (fun e_ => (Kd.R_ne HO435.out BK432.out (by decide)) e_) hs_))
               have n14_ := Aside0.mk (Kd.R_mono (ok' := fun k_ => True) ho0 (fun k_ hk_ => trivial))
               have n15_ := Aside0.mk (hb)
               clear HO374
               clear BK376
               clear HO381
               clear BK383
               clear HO388
               clear BK390
               clear HO395
               clear BK397
               clear HO402
               clear BK404
               clear HO409
               clear BK411
               clear HO430
               clear BK432
               clear HB
               clear HO435
               have HO374 := n0_
               have BK376 := n1_
               have HO381 := n2_
               have BK383 := n3_
               have HO388 := n4_
               have BK390 := n5_
               have HO395 := n6_
               have BK397 := n7_
               have HO402 := n8_
               have BK404 := n9_
               have HO409 := n10_
               have BK411 := n11_
               have HO430 := n12_
               have BK432 := n13_
               have HO440 := n14_
               have HB := n15_
               clear n0_ n1_ n2_ n3_ n4_ n5_ n6_ n7_ n8_ n9_ n10_ n11_ n12_ n13_ n14_ n15_
               (try clear hb)
               (try clear hkp)
               (try clear ho0)
               obtain ⟨Ao142, co142, eo142⟩ := Kd.R_slice HO440.out
               (first | subst eo142 | (injection eo142 with f1_ f2_ f3_; have f4_ := f1_.symm; have f5_ := f3_.symm; clear f1_ f2_ f3_; subst f4_; subst f5_))
               refine hK.out _ _ ⟨(blk_cell BK376.out 0).trans rfl, (blk_cell BK376.out 1).trans rfl, (blk_cell BK376.out 2).trans rfl, (blk_cell BK383.out 0).trans rfl, (blk_cell BK383.out 1).trans rfl, (blk_cell BK383.out 2).trans rfl, (blk_cell BK390.out 0).trans rfl, (blk_cell BK390.out 1).trans rfl, (blk_cell BK390.out 2).trans rfl, (blk_cell BK397.out 0).trans rfl, (blk_cell BK397.out 1).trans rfl, (blk_cell BK397.out 2).trans rfl, (blk_cell BK404.out 0).trans rfl, (blk_cell BK404.out 1).trans rfl, (blk_cell BK404.out 2).trans rfl, (blk_cell BK411.out 0).trans rfl, (blk_cell BK411.out 1).trans rfl, (blk_cell BK411.out 2).trans rfl⟩ (fun hHeld => ?_)
               clear hK K
               refine norm_ (a' := ?_) ?_ ?_
               rotate_left
               ·show Act.put _ (some 82) _ = _
                simp only [Act.put, sA, sB, sC, i64_w, i32_w]
                rfl
               refine one_ (i := 4) (N := some 83) (bs 81 31) rfl rfl (one_of HT_.out (by kernel_rfl)) (by decide) (fun K hK => ?_)
               refine goes_ Try.func11 (by kernel_rfl) rfl #[.agg #[.int .i64 t370, .int .i64 t371, .slice Ao58 t372.length co58], .agg #[.int .i64 t436, .int .i64 t437, .slice Ao142 t438.length co142]] (by rfl) rfl rfl (by (try simp only [List.map_toArray, List.map_cons, List.map_nil]); first | done | rfl | (simp only [List.length_drop, List.length_take]; rfl)) ?_
               with_reducible refine (imageeditorlaw24_same.calls k t370 t371 _ _ t372 t436 t437 _ _ t438 true _ ?side1 ?side2 ?side3 ?side4 A13.out).mono ?_
               (case side1 => repeat (first | exact (Kd.R_reads' HO374.out).2.2 | (with_reducible refine Kd.C_alloc ?_ _) | (with_reducible refine Kd.C_drewN ?_ _) | (with_reducible refine Kd.C_drew ?_)))
               (case side2 => exact (Kd.R_reads' HO374.out).2.1)
               (case side3 => repeat (first | exact (Kd.R_reads' HO440.out).2.2 | (with_reducible refine Kd.C_alloc ?_ _) | (with_reducible refine Kd.C_drewN ?_ _) | (with_reducible refine Kd.C_drew ?_)))
               (case side4 => exact (Kd.R_reads' HO440.out).2.1)
               rintro e w143 ⟨rfl, hb⟩
               refine ⟨_, rfl, ?_⟩
               replace HO374 := zr HO374 hb
               replace HO381 := zr HO381 hb
               replace HO388 := zr HO388 hb
               replace HO395 := zr HO395 hb
               replace HO402 := zr HO402 hb
               replace HO409 := zr HO409 hb
               replace HO430 := zr HO430 hb
               replace HO440 := zr HO440 hb
               replace BK376 := zk BK376 hb
               replace BK383 := zk BK383 hb
               replace BK390 := zk BK390 hb
               replace BK397 := zk BK397 hb
               replace BK404 := zk BK404 hb
               replace BK411 := zk BK411 hb
               replace BK432 := zk BK432 hb
               replace HB := zb HB hb
               (try clear hb)
               (try clear hb2)
               (try clear hk)
               (try clear hi)
               refine hK.out _ _ ⟨(blk_cell BK376.out 0).trans rfl, (blk_cell BK376.out 1).trans rfl, (blk_cell BK376.out 2).trans rfl, (blk_cell BK383.out 0).trans rfl, (blk_cell BK383.out 1).trans rfl, (blk_cell BK383.out 2).trans rfl, (blk_cell BK390.out 0).trans rfl, (blk_cell BK390.out 1).trans rfl, (blk_cell BK390.out 2).trans rfl, (blk_cell BK397.out 0).trans rfl, (blk_cell BK397.out 1).trans rfl, (blk_cell BK397.out 2).trans rfl, (blk_cell BK404.out 0).trans rfl, (blk_cell BK404.out 1).trans rfl, (blk_cell BK404.out 2).trans rfl, (blk_cell BK411.out 0).trans rfl, (blk_cell BK411.out 1).trans rfl, (blk_cell BK411.out 2).trans rfl⟩ (fun hHeld => ?_)
               clear hK K
               refine norm_ (a' := ?_) ?_ ?_
               rotate_left
               ·show Act.put _ (some 83) _ = _
                simp only [Act.put, sA, sB, sC, i64_w, i32_w]
                rfl
               refine pure_ (i := 5) (N := some 84) (v := ?_) (a' := ?_) (bs 81 63) rfl rfl (any_of HT_.out (by kernel_rfl)) (fun _ _ _ h => h) (Or.inl ⟨by rfl, ?_⟩) ?_ ?_
               rotate_left
               ·intro w'
                go_simp
                with_reducible rfl
               rotate_left
               ·simp only [Act.put, sA, sB, sC, i64_w, i32_w]
                rfl
               refine pure_ (i := 6) (N := some 85) (v := ?_) (a' := ?_) (bs 81 127) rfl rfl (any_of HT_.out (by kernel_rfl)) (fun _ _ _ h => h) (Or.inl ⟨by rfl, ?_⟩) ?_ ?_
               rotate_left
               ·intro w'
                go_simp
                with_reducible rfl
               rotate_left
               ·simp only [Act.put, sA, sB, sC, i64_w, i32_w]
                rfl
               refine pure_ (i := 7) (N := some 86) (v := ?_) (a' := ?_) (bs 81 255) rfl rfl (any_of HT_.out (by kernel_rfl)) (fun _ _ _ h => h) (Or.inl ⟨by rfl, ?_⟩) ?_ ?_
               rotate_left
               ·intro w'
                go_simp
                with_reducible rfl
               rotate_left
               ·simp only [Act.put, sA, sB, sC, i64_w, i32_w]
                rfl
               refine pure_ (i := 8) (N := some 87) (v := ?_) (a' := ?_) (bs 81 511) rfl rfl (any_of HT_.out (by kernel_rfl)) (fun _ _ _ h => h) (Or.inl ⟨by rfl, ?_⟩) ?_ ?_
               rotate_left
               ·intro w'
                go_simp
                with_reducible rfl
               rotate_left
               ·simp only [Act.put, sA, sB, sC, i64_w, i32_w]
                rfl
               refine pure_ (i := 9) (N := some 88) (v := ?_) (a' := ?_) (bs 81 1023) rfl rfl (any_of HT_.out (by kernel_rfl)) (fun _ _ _ h => h) (Or.inl ⟨by rfl, ?_⟩) ?_ ?_
               rotate_left
               ·intro w'
                go_simp
                with_reducible rfl
               rotate_left
               ·simp only [Act.put, sA, sB, sC, i64_w, i32_w]
                rfl
               refine pure_ (i := 11) (N := some 90) (v := ?_) (a' := ?_) (bs 81 3071) rfl rfl (any_of HT_.out (by kernel_rfl)) (fun _ _ _ h => h) (Or.inl ⟨by rfl, ?_⟩) ?_ ?_
               rotate_left
               ·intro w'
                go_simp
                with_reducible rfl
               rotate_left
               ·simp only [Act.put, sA, sB, sC, i64_w, i32_w]
                rfl
               refine pure_ (i := 12) (N := some 91) (v := ?_) (a' := ?_) (bs 81 7167) rfl rfl (any_of HT_.out (by kernel_rfl)) (fun _ _ _ h => h) (Or.inl ⟨by rfl, ?_⟩) ?_ ?_
               rotate_left
               ·intro w'
                go_simp
                with_reducible rfl
               rotate_left
               ·simp only [Act.put, sA, sB, sC, i64_w, i32_w]
                rfl
               refine pure_ (i := 13) (N := some 92) (v := ?_) (a' := ?_) (bs 81 15359) rfl rfl (any_of HT_.out (by kernel_rfl)) (fun _ _ _ h => h) (Or.inl ⟨by rfl, ?_⟩) ?_ ?_
               rotate_left
               ·intro w'
                go_simp
                with_reducible rfl
               rotate_left
               ·simp only [Act.put, sA, sB, sC, i64_w, i32_w]
                rfl
               refine take_ (i := 10) (N := some 89) (v := ?_) (a' := ?_) (bs 81 16383) rfl rfl (take_ofW HT_.out HW_.out (by kernel_rfl)) (fun _ _ _ h => h) (Or.inl ⟨by rfl, ?_⟩) hHeld ?_ ?_
               rotate_left
               ·rintro w' ⟨s0, s1, s2, s3, s4, s5, s6, s7, s8, s9, s10, s11, s12, s13, s14, s15, s16, s17⟩
                go_simp
                with_reducible rfl
               rotate_left
               ·simp only [Act.put, sA, sB, sC, i64_w, i32_w]
                rfl
               refine one_ (i := 14) (N := some 93) (bs 81 32767) rfl rfl (one_of HT_.out (by kernel_rfl)) (by decide) (fun K hK => ?_)
               refine Kd.R_lit_step (Kd.int .i64) _ 3 ?hg (N := 93) ?hd (xs := ([65535, 65535, 65535] : List Int)) (inner := [.int .i64 65535, .int .i64 65535, .int .i64 65535]) (ok := fun _ => True) (okp := fun _ => True) ?hr ?hp (fun _ hk => hk) trivial (Below.refl _ _) (Nat.le_refl _) (by simp) ?_; (case hd => rfl); (case hg => rfl); (case hr => first | (go_simp; done) | (go_simp; rfl)); (case hp => exact (Reps.one (show Kd.M (Kd.int .i64) _ _ _ 65535 [.int .i64 65535] from rfl) (Reps.one (show Kd.M (Kd.int .i64) _ _ _ 65535 [.int .i64 65535] from rfl) (Reps.one (show Kd.M (Kd.int .i64) _ _ _ 65535 [.int .i64 65535] from rfl) (Reps.none _ _)))))
               intro v443 w144 ho145 hb hg_ hnew_
               clear hg_ hnew_
               (first | rw [← Ny442.out] at ho145 | (simp only [Int.reduceToNat] at ho145; rw [← Ny442.out] at ho145))
               have HO444 := zl HB ho145
               have n0_ := Aside0.mk (Kd.R_elder' (by exact zr0 HO374) (Kd.R_base ho145) hb)
               have n1_ := Aside0.mk (Kd.R_elder' (by exact zr0 HO381) (Kd.R_base ho145) hb)
               have n2_ := Aside0.mk (Kd.R_elder' (by exact zr0 HO388) (Kd.R_base ho145) hb)
               have n3_ := Aside0.mk (Kd.R_elder' (by exact zr0 HO395) (Kd.R_base ho145) hb)
               have n4_ := Aside0.mk (Kd.R_elder' (by exact zr0 HO402) (Kd.R_base ho145) hb)
               have n5_ := Aside0.mk (Kd.R_elder' (by exact zr0 HO409) (Kd.R_base ho145) hb)
               have n6_ := Aside0.mk (Kd.R_elder' (by exact zr0 HO430) (Kd.R_base ho145) hb)
               have n7_ := Aside0.mk (Kd.R_elder' (by exact zr0 HO440) (Kd.R_base ho145) hb)
               replace BK376 := zk BK376 hb
               replace BK383 := zk BK383 hb
               replace BK390 := zk BK390 hb
               replace BK397 := zk BK397 hb
               replace BK404 := zk BK404 hb
               replace BK411 := zk BK411 hb
               replace BK432 := zk BK432 hb
               replace HB := zb HB hb
               clear HO374
               clear HO381
               clear HO388
               clear HO395
               clear HO402
               clear HO409
               clear HO430
               clear HO440
               have HO374 := n0_
               have HO381 := n1_
               have HO388 := n2_
               have HO395 := n3_
               have HO402 := n4_
               have HO409 := n5_
               have HO430 := n6_
               have HO440 := n7_
               clear n0_ n1_ n2_ n3_ n4_ n5_ n6_ n7_
               clear hb ho145
               obtain ⟨Ao146, co146, eo146⟩ := Kd.R_slice HO444.out
               (first | subst eo146 | (injection eo146 with f1_ f2_ f3_; have f4_ := f1_.symm; have f5_ := f3_.symm; clear f1_ f2_ f3_; subst f4_; subst f5_))
               refine hK.out _ _ ⟨(blk_cell BK376.out 0).trans rfl, (blk_cell BK376.out 1).trans rfl, (blk_cell BK376.out 2).trans rfl, (blk_cell BK383.out 0).trans rfl, (blk_cell BK383.out 1).trans rfl, (blk_cell BK383.out 2).trans rfl, (blk_cell BK390.out 0).trans rfl, (blk_cell BK390.out 1).trans rfl, (blk_cell BK390.out 2).trans rfl, (blk_cell BK397.out 0).trans rfl, (blk_cell BK397.out 1).trans rfl, (blk_cell BK397.out 2).trans rfl, (blk_cell BK404.out 0).trans rfl, (blk_cell BK404.out 1).trans rfl, (blk_cell BK404.out 2).trans rfl, (blk_cell BK411.out 0).trans rfl, (blk_cell BK411.out 1).trans rfl, (blk_cell BK411.out 2).trans rfl⟩ (fun hHeld => ?_)
               clear hK K
               refine norm_ (a' := ?_) ?_ ?_
               rotate_left
               ·show Act.put _ (some 93) _ = _
                simp only [Act.put, sA, sB, sC, i64_w, i32_w]
                rfl
               refine one_ (i := 15) (N := some 94) (bs 81 65535) rfl rfl (one_of HT_.out (by kernel_rfl)) (by decide) (fun K hK => ?_)
               refine goes_ Try.func29 (by kernel_rfl) rfl #[.int .i64 3, .slice Ao146 y442.length co146] (by rfl) rfl rfl (by (try simp only [List.map_toArray, List.map_cons, List.map_nil]); first | done | rfl | (simp only [List.length_drop, List.length_take]; rfl)) ?_
               with_reducible refine (imageeditorlaw24_values.calls 3 (fun k_ => some k_ = (.slice Ao146 y442.length co146 : Value).ownBlock) (.slice Ao146 y442.length co146) y442 t445 t446 t447 w _ ?side1 ?side2 A16.out).mono ?_
               (case side1 => exact zb0 HB)
               (case side2 => exact Kd.R_tight rfl HO444.out)
               rintro e w147 ⟨v448, rfl, ho0, hb, hkp⟩
               refine ⟨_, rfl, ?_⟩
               have n0_ := Aside0.mk (Kd.R_mono (ok' := fun k_ => True) (Kd.R_keptB (HO374.out) hkp (fun k_ hk_ hs_ => (hk_.2) hs_)) (fun k_ hk_ => trivial))
               have n1_ := Aside0.mk (blk_kept (by exact zk0 BK376) hkp (fun hs_ => (fun e_ => (Kd.R_ne HO444.out BK376.out (by decide)) e_) hs_))
               have n2_ := Aside0.mk (Kd.R_mono (ok' := fun k_ => True) (Kd.R_keptB (HO381.out) hkp (fun k_ hk_ hs_ => (hk_.2) hs_)) (fun k_ hk_ => trivial))
               have n3_ := Aside0.mk (blk_kept (by exact zk0 BK383) hkp (fun hs_ => (fun e_ => (Kd.R_ne HO444.out BK383.out (by decide)) e_) hs_))
               have n4_ := Aside0.mk (Kd.R_mono (ok' := fun k_ => True) (Kd.R_keptB (HO388.out) hkp (fun k_ hk_ hs_ => (hk_.2) hs_)) (fun k_ hk_ => trivial))
               have n5_ := Aside0.mk (blk_kept (by exact zk0 BK390) hkp (fun hs_ => (fun e_ => (Kd.R_ne HO444.out BK390.out (by decide)) e_) hs_))
               have n6_ := Aside0.mk (Kd.R_mono (ok' := fun k_ => True) (Kd.R_keptB (HO395.out) hkp (fun k_ hk_ hs_ => (hk_.2) hs_)) (fun k_ hk_ => trivial))
               have n7_ := Aside0.mk (blk_kept (by exact zk0 BK397) hkp (fun hs_ => (fun e_ => (Kd.R_ne HO444.out BK397.out (by decide)) e_) hs_))
               have n8_ := Aside0.mk (Kd.R_mono (ok' := fun k_ => True) (Kd.R_keptB (HO402.out) hkp (fun k_ hk_ hs_ => (hk_.2) hs_)) (fun k_ hk_ => trivial))
               have n9_ := Aside0.mk (blk_kept (by exact zk0 BK404) hkp (fun hs_ => (fun e_ => (Kd.R_ne HO444.out BK404.out (by decide)) e_) hs_))
               have n10_ := Aside0.mk (Kd.R_mono (ok' := fun k_ => True) (Kd.R_keptB (HO409.out) hkp (fun k_ hk_ hs_ => (hk_.2) hs_)) (fun k_ hk_ => trivial))
               have n11_ := Aside0.mk (blk_kept (by exact zk0 BK411) hkp (fun hs_ => (fun e_ => (Kd.R_ne HO444.out BK411.out (by decide)) e_) hs_))
               have n12_ := Aside0.mk (Kd.R_mono (ok' := fun k_ => True) (Kd.R_keptB (HO430.out) hkp (fun k_ hk_ hs_ => (hk_.2) hs_)) (fun k_ hk_ => trivial))
               have n13_ := Aside0.mk (blk_kept (by exact zk0 BK432) hkp (fun hs_ => (fun e_ => (Kd.R_ne HO444.out BK432.out (by decide)) e_) hs_))
               have n14_ := Aside0.mk (Kd.R_mono (ok' := fun k_ => True) (Kd.R_keptB (HO440.out) hkp (fun k_ hk_ hs_ => (hk_.2) hs_)) (fun k_ hk_ => trivial))
               have n15_ := Aside0.mk (Kd.R_mono (ok' := fun k_ => True) ho0 (fun k_ hk_ => trivial))
               have n16_ := Aside0.mk (hb)
               clear HO374
               clear BK376
               clear HO381
               clear BK383
               clear HO388
               clear BK390
               clear HO395
               clear BK397
               clear HO402
               clear BK404
               clear HO409
               clear BK411
               clear HO430
               clear BK432
               clear HO440
               clear HB
               clear HO444
               have HO374 := n0_
               have BK376 := n1_
               have HO381 := n2_
               have BK383 := n3_
               have HO388 := n4_
               have BK390 := n5_
               have HO395 := n6_
               have BK397 := n7_
               have HO402 := n8_
               have BK404 := n9_
               have HO409 := n10_
               have BK411 := n11_
               have HO430 := n12_
               have BK432 := n13_
               have HO440 := n14_
               have HO449 := n15_
               have HB := n16_
               clear n0_ n1_ n2_ n3_ n4_ n5_ n6_ n7_ n8_ n9_ n10_ n11_ n12_ n13_ n14_ n15_ n16_
               (try clear hb)
               (try clear hkp)
               (try clear ho0)
               obtain ⟨Ao148, co148, eo148⟩ := Kd.R_slice HO449.out
               (first | subst eo148 | (injection eo148 with f1_ f2_ f3_; have f4_ := f1_.symm; have f5_ := f3_.symm; clear f1_ f2_ f3_; subst f4_; subst f5_))
               refine hK.out _ _ ⟨(blk_cell BK376.out 0).trans rfl, (blk_cell BK376.out 1).trans rfl, (blk_cell BK376.out 2).trans rfl, (blk_cell BK383.out 0).trans rfl, (blk_cell BK383.out 1).trans rfl, (blk_cell BK383.out 2).trans rfl, (blk_cell BK390.out 0).trans rfl, (blk_cell BK390.out 1).trans rfl, (blk_cell BK390.out 2).trans rfl, (blk_cell BK397.out 0).trans rfl, (blk_cell BK397.out 1).trans rfl, (blk_cell BK397.out 2).trans rfl, (blk_cell BK404.out 0).trans rfl, (blk_cell BK404.out 1).trans rfl, (blk_cell BK404.out 2).trans rfl, (blk_cell BK411.out 0).trans rfl, (blk_cell BK411.out 1).trans rfl, (blk_cell BK411.out 2).trans rfl⟩ (fun hHeld => ?_)
               clear hK K
               refine norm_ (a' := ?_) ?_ ?_
               rotate_left
               ·show Act.put _ (some 94) _ = _
                simp only [Act.put, sA, sB, sC, i64_w, i32_w]
                rfl
               refine one_ (i := 16) (N := some 95) (bs 81 131071) rfl rfl (one_of HT_.out (by kernel_rfl)) (by decide) (fun K hK => ?_)
               refine goes_ Try.func11 (by kernel_rfl) rfl #[.agg #[.int .i64 t377, .int .i64 t378, .slice Ao66 t379.length co66], .agg #[.int .i64 t445, .int .i64 t446, .slice Ao148 t447.length co148]] (by rfl) rfl rfl (by (try simp only [List.map_toArray, List.map_cons, List.map_nil]); first | done | rfl | (simp only [List.length_drop, List.length_take]; rfl)) ?_
               with_reducible refine (imageeditorlaw24_same.calls k t377 t378 _ _ t379 t445 t446 _ _ t447 true _ ?side1 ?side2 ?side3 ?side4 A17.out).mono ?_
               (case side1 => repeat (first | exact (Kd.R_reads' HO381.out).2.2 | (with_reducible refine Kd.C_alloc ?_ _) | (with_reducible refine Kd.C_drewN ?_ _) | (with_reducible refine Kd.C_drew ?_)))
               (case side2 => exact (Kd.R_reads' HO381.out).2.1)
               (case side3 => repeat (first | exact (Kd.R_reads' HO449.out).2.2 | (with_reducible refine Kd.C_alloc ?_ _) | (with_reducible refine Kd.C_drewN ?_ _) | (with_reducible refine Kd.C_drew ?_)))
               (case side4 => exact (Kd.R_reads' HO449.out).2.1)
               rintro e w149 ⟨rfl, hb⟩
               refine ⟨_, rfl, ?_⟩
               replace HO374 := zr HO374 hb
               replace HO381 := zr HO381 hb
               replace HO388 := zr HO388 hb
               replace HO395 := zr HO395 hb
               replace HO402 := zr HO402 hb
               replace HO409 := zr HO409 hb
               replace HO430 := zr HO430 hb
               replace HO440 := zr HO440 hb
               replace HO449 := zr HO449 hb
               replace BK376 := zk BK376 hb
               replace BK383 := zk BK383 hb
               replace BK390 := zk BK390 hb
               replace BK397 := zk BK397 hb
               replace BK404 := zk BK404 hb
               replace BK411 := zk BK411 hb
               replace BK432 := zk BK432 hb
               replace HB := zb HB hb
               (try clear hb)
               (try clear hb2)
               (try clear hk)
               (try clear hi)
               refine hK.out _ _ ⟨(blk_cell BK376.out 0).trans rfl, (blk_cell BK376.out 1).trans rfl, (blk_cell BK376.out 2).trans rfl, (blk_cell BK383.out 0).trans rfl, (blk_cell BK383.out 1).trans rfl, (blk_cell BK383.out 2).trans rfl, (blk_cell BK390.out 0).trans rfl, (blk_cell BK390.out 1).trans rfl, (blk_cell BK390.out 2).trans rfl, (blk_cell BK397.out 0).trans rfl, (blk_cell BK397.out 1).trans rfl, (blk_cell BK397.out 2).trans rfl, (blk_cell BK404.out 0).trans rfl, (blk_cell BK404.out 1).trans rfl, (blk_cell BK404.out 2).trans rfl, (blk_cell BK411.out 0).trans rfl, (blk_cell BK411.out 1).trans rfl, (blk_cell BK411.out 2).trans rfl⟩ (fun hHeld => ?_)
               clear hK K
               refine norm_ (a' := ?_) ?_ ?_
               rotate_left
               ·show Act.put _ (some 95) _ = _
                simp only [Act.put, sA, sB, sC, i64_w, i32_w]
                rfl
               refine pure_ (i := 17) (N := some 96) (v := ?_) (a' := ?_) (bs 81 262143) rfl rfl (any_of HT_.out (by kernel_rfl)) (fun _ _ _ h => h) (Or.inl ⟨by rfl, ?_⟩) ?_ ?_
               rotate_left
               ·intro w'
                go_simp
                with_reducible rfl
               rotate_left
               ·simp only [Act.put, sA, sB, sC, i64_w, i32_w]
                rfl
               refine pure_ (i := 18) (N := some 97) (v := ?_) (a' := ?_) (bs 81 524287) rfl rfl (any_of HT_.out (by kernel_rfl)) (fun _ _ _ h => h) (Or.inl ⟨by rfl, ?_⟩) ?_ ?_
               rotate_left
               ·intro w'
                go_simp
                with_reducible rfl
               rotate_left
               ·simp only [Act.put, sA, sB, sC, i64_w, i32_w]
                rfl
               refine pure_ (i := 19) (N := some 98) (v := ?_) (a' := ?_) (bs 81 1048575) rfl rfl (any_of HT_.out (by kernel_rfl)) (fun _ _ _ h => h) (Or.inl ⟨by rfl, ?_⟩) ?_ ?_
               rotate_left
               ·intro w'
                go_simp
                with_reducible rfl
               rotate_left
               ·simp only [Act.put, sA, sB, sC, i64_w, i32_w]
                rfl
               refine pure_ (i := 20) (N := some 99) (v := ?_) (a' := ?_) (bs 81 2097151) rfl rfl (any_of HT_.out (by kernel_rfl)) (fun _ _ _ h => h) (Or.inl ⟨by rfl, ?_⟩) ?_ ?_
               rotate_left
               ·intro w'
                go_simp
                with_reducible rfl
               rotate_left
               ·simp only [Act.put, sA, sB, sC, i64_w, i32_w]
                rfl
               refine pure_ (i := 21) (N := some 100) (v := ?_) (a' := ?_) (bs 81 4194303) rfl rfl (any_of HT_.out (by kernel_rfl)) (fun _ _ _ h => h) (Or.inl ⟨by rfl, ?_⟩) ?_ ?_
               rotate_left
               ·intro w'
                go_simp
                with_reducible rfl
               rotate_left
               ·simp only [Act.put, sA, sB, sC, i64_w, i32_w]
                rfl
               refine pure_ (i := 22) (N := some 101) (v := ?_) (a' := ?_) (bs 81 8388607) rfl rfl (any_of HT_.out (by kernel_rfl)) (fun _ _ _ h => h) (Or.inl ⟨by rfl, ?_⟩) ?_ ?_
               rotate_left
               ·intro w'
                go_simp
                with_reducible rfl
               rotate_left
               ·simp only [Act.put, sA, sB, sC, i64_w, i32_w]
                rfl
               refine pure_ (i := 24) (N := some 103) (v := ?_) (a' := ?_) (bs 81 25165823) rfl rfl (any_of HT_.out (by kernel_rfl)) (fun _ _ _ h => h) (Or.inl ⟨by rfl, ?_⟩) ?_ ?_
               rotate_left
               ·intro w'
                go_simp
                with_reducible rfl
               rotate_left
               ·simp only [Act.put, sA, sB, sC, i64_w, i32_w]
                rfl
               refine pure_ (i := 25) (N := some 104) (v := ?_) (a' := ?_) (bs 81 58720255) rfl rfl (any_of HT_.out (by kernel_rfl)) (fun _ _ _ h => h) (Or.inl ⟨by rfl, ?_⟩) ?_ ?_
               rotate_left
               ·intro w'
                go_simp
                with_reducible rfl
               rotate_left
               ·simp only [Act.put, sA, sB, sC, i64_w, i32_w]
                rfl
               refine take_ (i := 23) (N := some 102) (v := ?_) (a' := ?_) (bs 81 67108863) rfl rfl (take_ofW HT_.out HW_.out (by kernel_rfl)) (fun _ _ _ h => h) (Or.inl ⟨by rfl, ?_⟩) hHeld ?_ ?_
               rotate_left
               ·rintro w' ⟨s0, s1, s2, s3, s4, s5, s6, s7, s8, s9, s10, s11, s12, s13, s14, s15, s16, s17⟩
                go_simp
                with_reducible rfl
               rotate_left
               ·simp only [Act.put, sA, sB, sC, i64_w, i32_w]
                rfl
               refine one_ (i := 26) (N := some 105) (bs 81 134217727) rfl rfl (one_of HT_.out (by kernel_rfl)) (by decide) (fun K hK => ?_)
               refine Kd.R_lit_step (Kd.int .i64) _ 3 ?hg (N := 105) ?hd (xs := ([65535, 0, 0, 65535] : List Int)) (inner := [.int .i64 65535, .int .i64 0, .int .i64 0, .int .i64 65535]) (ok := fun _ => True) (okp := fun _ => True) ?hr ?hp (fun _ hk => hk) trivial (Below.refl _ _) (Nat.le_refl _) (by simp) ?_; (case hd => rfl); (case hg => rfl); (case hr => first | (go_simp; done) | (go_simp; rfl)); (case hp => exact (Reps.one (show Kd.M (Kd.int .i64) _ _ _ 65535 [.int .i64 65535] from rfl) (Reps.one (show Kd.M (Kd.int .i64) _ _ _ 0 [.int .i64 0] from rfl) (Reps.one (show Kd.M (Kd.int .i64) _ _ _ 0 [.int .i64 0] from rfl) (Reps.one (show Kd.M (Kd.int .i64) _ _ _ 65535 [.int .i64 65535] from rfl) (Reps.none _ _))))))
               intro v452 w150 ho151 hb hg_ hnew_
               clear hg_ hnew_
               (first | rw [← Ny451.out] at ho151 | (simp only [Int.reduceToNat] at ho151; rw [← Ny451.out] at ho151))
               have HO453 := zl HB ho151
               have n0_ := Aside0.mk (Kd.R_elder' (by exact zr0 HO374) (Kd.R_base ho151) hb)
               have n1_ := Aside0.mk (Kd.R_elder' (by exact zr0 HO381) (Kd.R_base ho151) hb)
               have n2_ := Aside0.mk (Kd.R_elder' (by exact zr0 HO388) (Kd.R_base ho151) hb)
               have n3_ := Aside0.mk (Kd.R_elder' (by exact zr0 HO395) (Kd.R_base ho151) hb)
               have n4_ := Aside0.mk (Kd.R_elder' (by exact zr0 HO402) (Kd.R_base ho151) hb)
               have n5_ := Aside0.mk (Kd.R_elder' (by exact zr0 HO409) (Kd.R_base ho151) hb)
               have n6_ := Aside0.mk (Kd.R_elder' (by exact zr0 HO430) (Kd.R_base ho151) hb)
               have n7_ := Aside0.mk (Kd.R_elder' (by exact zr0 HO440) (Kd.R_base ho151) hb)
               have n8_ := Aside0.mk (Kd.R_elder' (by exact zr0 HO449) (Kd.R_base ho151) hb)
               replace BK376 := zk BK376 hb
               replace BK383 := zk BK383 hb
               replace BK390 := zk BK390 hb
               replace BK397 := zk BK397 hb
               replace BK404 := zk BK404 hb
               replace BK411 := zk BK411 hb
               replace BK432 := zk BK432 hb
               replace HB := zb HB hb
               clear HO374
               clear HO381
               clear HO388
               clear HO395
               clear HO402
               clear HO409
               clear HO430
               clear HO440
               clear HO449
               have HO374 := n0_
               have HO381 := n1_
               have HO388 := n2_
               have HO395 := n3_
               have HO402 := n4_
               have HO409 := n5_
               have HO430 := n6_
               have HO440 := n7_
               have HO449 := n8_
               clear n0_ n1_ n2_ n3_ n4_ n5_ n6_ n7_ n8_
               clear hb ho151
               obtain ⟨Ao152, co152, eo152⟩ := Kd.R_slice HO453.out
               (first | subst eo152 | (injection eo152 with f1_ f2_ f3_; have f4_ := f1_.symm; have f5_ := f3_.symm; clear f1_ f2_ f3_; subst f4_; subst f5_))
               refine hK.out _ _ ⟨(blk_cell BK376.out 0).trans rfl, (blk_cell BK376.out 1).trans rfl, (blk_cell BK376.out 2).trans rfl, (blk_cell BK383.out 0).trans rfl, (blk_cell BK383.out 1).trans rfl, (blk_cell BK383.out 2).trans rfl, (blk_cell BK390.out 0).trans rfl, (blk_cell BK390.out 1).trans rfl, (blk_cell BK390.out 2).trans rfl, (blk_cell BK397.out 0).trans rfl, (blk_cell BK397.out 1).trans rfl, (blk_cell BK397.out 2).trans rfl, (blk_cell BK404.out 0).trans rfl, (blk_cell BK404.out 1).trans rfl, (blk_cell BK404.out 2).trans rfl, (blk_cell BK411.out 0).trans rfl, (blk_cell BK411.out 1).trans rfl, (blk_cell BK411.out 2).trans rfl⟩ (fun hHeld => ?_)
               clear hK K
               refine norm_ (a' := ?_) ?_ ?_
               rotate_left
               ·show Act.put _ (some 105) _ = _
                simp only [Act.put, sA, sB, sC, i64_w, i32_w]
                rfl
               refine one_ (i := 27) (N := some 106) (bs 81 268435455) rfl rfl (one_of HT_.out (by kernel_rfl)) (by decide) (fun K hK => ?_)
               refine goes_ Try.func29 (by kernel_rfl) rfl #[.int .i64 2, .slice Ao152 y451.length co152] (by rfl) rfl rfl (by (try simp only [List.map_toArray, List.map_cons, List.map_nil]); first | done | rfl | (simp only [List.length_drop, List.length_take]; rfl)) ?_
               with_reducible refine (imageeditorlaw24_values.calls 2 (fun k_ => some k_ = (.slice Ao152 y451.length co152 : Value).ownBlock) (.slice Ao152 y451.length co152) y451 t454 t455 t456 w _ ?side1 ?side2 A20.out).mono ?_
               (case side1 => exact zb0 HB)
               (case side2 => exact Kd.R_tight rfl HO453.out)
               rintro e w153 ⟨v457, rfl, ho0, hb, hkp⟩
               refine ⟨_, rfl, ?_⟩
               have n0_ := Aside0.mk (Kd.R_mono (ok' := fun k_ => True) (Kd.R_keptB (HO374.out) hkp (fun k_ hk_ hs_ => (hk_.2) hs_)) (fun k_ hk_ => trivial))
               have n1_ := Aside0.mk (blk_kept (by exact zk0 BK376) hkp (fun hs_ => (fun e_ => (Kd.R_ne HO453.out BK376.out (by decide)) e_) hs_))
               have n2_ := Aside0.mk (Kd.R_mono (ok' := fun k_ => True) (Kd.R_keptB (HO381.out) hkp (fun k_ hk_ hs_ => (hk_.2) hs_)) (fun k_ hk_ => trivial))
               have n3_ := Aside0.mk (blk_kept (by exact zk0 BK383) hkp (fun hs_ => (fun e_ => (Kd.R_ne HO453.out BK383.out (by decide)) e_) hs_))
               have n4_ := Aside0.mk (Kd.R_mono (ok' := fun k_ => True) (Kd.R_keptB (HO388.out) hkp (fun k_ hk_ hs_ => (hk_.2) hs_)) (fun k_ hk_ => trivial))
               have n5_ := Aside0.mk (blk_kept (by exact zk0 BK390) hkp (fun hs_ => (fun e_ => (Kd.R_ne HO453.out BK390.out (by decide)) e_) hs_))
               have n6_ := Aside0.mk (Kd.R_mono (ok' := fun k_ => True) (Kd.R_keptB (HO395.out) hkp (fun k_ hk_ hs_ => (hk_.2) hs_)) (fun k_ hk_ => trivial))
               have n7_ := Aside0.mk (blk_kept (by exact zk0 BK397) hkp (fun hs_ => (fun e_ => (Kd.R_ne HO453.out BK397.out (by decide)) e_) hs_))
               have n8_ := Aside0.mk (Kd.R_mono (ok' := fun k_ => True) (Kd.R_keptB (HO402.out) hkp (fun k_ hk_ hs_ => (hk_.2) hs_)) (fun k_ hk_ => trivial))
               have n9_ := Aside0.mk (blk_kept (by exact zk0 BK404) hkp (fun hs_ => (fun e_ => (Kd.R_ne HO453.out BK404.out (by decide)) e_) hs_))
               have n10_ := Aside0.mk (Kd.R_mono (ok' := fun k_ => True) (Kd.R_keptB (HO409.out) hkp (fun k_ hk_ hs_ => (hk_.2) hs_)) (fun k_ hk_ => trivial))
               have n11_ := Aside0.mk (blk_kept (by exact zk0 BK411) hkp (fun hs_ => (fun e_ => (Kd.R_ne HO453.out BK411.out (by decide)) e_) hs_))
               have n12_ := Aside0.mk (Kd.R_mono (ok' := fun k_ => True) (Kd.R_keptB (HO430.out) hkp (fun k_ hk_ hs_ => (hk_.2) hs_)) (fun k_ hk_ => trivial))
               have n13_ := Aside0.mk (blk_kept (by exact zk0 BK432) hkp (fun hs_ => (fun e_ => (Kd.R_ne HO453.out BK432.out (by decide)) e_) hs_))
               have n14_ := Aside0.mk (Kd.R_mono (ok' := fun k_ => True) (Kd.R_keptB (HO440.out) hkp (fun k_ hk_ hs_ => (hk_.2) hs_)) (fun k_ hk_ => trivial))
               have n15_ := Aside0.mk (Kd.R_mono (ok' := fun k_ => True) (Kd.R_keptB (HO449.out) hkp (fun k_ hk_ hs_ => (hk_.2) hs_)) (fun k_ hk_ => trivial))
               have n16_ := Aside0.mk (Kd.R_mono (ok' := fun k_ => True) ho0 (fun k_ hk_ => trivial))
               have n17_ := Aside0.mk (hb)
               clear HO374
               clear BK376
               clear HO381
               clear BK383
               clear HO388
               clear BK390
               clear HO395
               clear BK397
               clear HO402
               clear BK404
               clear HO409
               clear BK411
               clear HO430
               clear BK432
               clear HO440
               clear HO449
               clear HB
               clear HO453
               have HO374 := n0_
               have BK376 := n1_
               have HO381 := n2_
               have BK383 := n3_
               have HO388 := n4_
               have BK390 := n5_
               have HO395 := n6_
               have BK397 := n7_
               have HO402 := n8_
               have BK404 := n9_
               have HO409 := n10_
               have BK411 := n11_
               have HO430 := n12_
               have BK432 := n13_
               have HO440 := n14_
               have HO449 := n15_
               have HO458 := n16_
               have HB := n17_
               clear n0_ n1_ n2_ n3_ n4_ n5_ n6_ n7_ n8_ n9_ n10_ n11_ n12_ n13_ n14_ n15_ n16_ n17_
               (try clear hb)
               (try clear hkp)
               (try clear ho0)
               obtain ⟨Ao154, co154, eo154⟩ := Kd.R_slice HO458.out
               (first | subst eo154 | (injection eo154 with f1_ f2_ f3_; have f4_ := f1_.symm; have f5_ := f3_.symm; clear f1_ f2_ f3_; subst f4_; subst f5_))
               refine hK.out _ _ ⟨(blk_cell BK376.out 0).trans rfl, (blk_cell BK376.out 1).trans rfl, (blk_cell BK376.out 2).trans rfl, (blk_cell BK383.out 0).trans rfl, (blk_cell BK383.out 1).trans rfl, (blk_cell BK383.out 2).trans rfl, (blk_cell BK390.out 0).trans rfl, (blk_cell BK390.out 1).trans rfl, (blk_cell BK390.out 2).trans rfl, (blk_cell BK397.out 0).trans rfl, (blk_cell BK397.out 1).trans rfl, (blk_cell BK397.out 2).trans rfl, (blk_cell BK404.out 0).trans rfl, (blk_cell BK404.out 1).trans rfl, (blk_cell BK404.out 2).trans rfl, (blk_cell BK411.out 0).trans rfl, (blk_cell BK411.out 1).trans rfl, (blk_cell BK411.out 2).trans rfl⟩ (fun hHeld => ?_)
               clear hK K
               refine norm_ (a' := ?_) ?_ ?_
               rotate_left
               ·show Act.put _ (some 106) _ = _
                simp only [Act.put, sA, sB, sC, i64_w, i32_w]
                rfl
               refine one_ (i := 28) (N := some 107) (bs 81 536870911) rfl rfl (one_of HT_.out (by kernel_rfl)) (by decide) (fun K hK => ?_)
               refine goes_ Try.func11 (by kernel_rfl) rfl #[.agg #[.int .i64 t384, .int .i64 t385, .slice Ao74 t386.length co74], .agg #[.int .i64 t454, .int .i64 t455, .slice Ao154 t456.length co154]] (by rfl) rfl rfl (by (try simp only [List.map_toArray, List.map_cons, List.map_nil]); first | done | rfl | (simp only [List.length_drop, List.length_take]; rfl)) ?_
               with_reducible refine (imageeditorlaw24_same.calls k t384 t385 _ _ t386 t454 t455 _ _ t456 true _ ?side1 ?side2 ?side3 ?side4 A21.out).mono ?_
               (case side1 => repeat (first | exact (Kd.R_reads' HO388.out).2.2 | (with_reducible refine Kd.C_alloc ?_ _) | (with_reducible refine Kd.C_drewN ?_ _) | (with_reducible refine Kd.C_drew ?_)))
               (case side2 => exact (Kd.R_reads' HO388.out).2.1)
               (case side3 => repeat (first | exact (Kd.R_reads' HO458.out).2.2 | (with_reducible refine Kd.C_alloc ?_ _) | (with_reducible refine Kd.C_drewN ?_ _) | (with_reducible refine Kd.C_drew ?_)))
               (case side4 => exact (Kd.R_reads' HO458.out).2.1)
               rintro e w155 ⟨rfl, hb⟩
               refine ⟨_, rfl, ?_⟩
               replace HO374 := zr HO374 hb
               replace HO381 := zr HO381 hb
               replace HO388 := zr HO388 hb
               replace HO395 := zr HO395 hb
               replace HO402 := zr HO402 hb
               replace HO409 := zr HO409 hb
               replace HO430 := zr HO430 hb
               replace HO440 := zr HO440 hb
               replace HO449 := zr HO449 hb
               replace HO458 := zr HO458 hb
               replace BK376 := zk BK376 hb
               replace BK383 := zk BK383 hb
               replace BK390 := zk BK390 hb
               replace BK397 := zk BK397 hb
               replace BK404 := zk BK404 hb
               replace BK411 := zk BK411 hb
               replace BK432 := zk BK432 hb
               replace HB := zb HB hb
               (try clear hb)
               (try clear hb2)
               (try clear hk)
               (try clear hi)
               refine hK.out _ _ ⟨(blk_cell BK376.out 0).trans rfl, (blk_cell BK376.out 1).trans rfl, (blk_cell BK376.out 2).trans rfl, (blk_cell BK383.out 0).trans rfl, (blk_cell BK383.out 1).trans rfl, (blk_cell BK383.out 2).trans rfl, (blk_cell BK390.out 0).trans rfl, (blk_cell BK390.out 1).trans rfl, (blk_cell BK390.out 2).trans rfl, (blk_cell BK397.out 0).trans rfl, (blk_cell BK397.out 1).trans rfl, (blk_cell BK397.out 2).trans rfl, (blk_cell BK404.out 0).trans rfl, (blk_cell BK404.out 1).trans rfl, (blk_cell BK404.out 2).trans rfl, (blk_cell BK411.out 0).trans rfl, (blk_cell BK411.out 1).trans rfl, (blk_cell BK411.out 2).trans rfl⟩ (fun hHeld => ?_)
               clear hK K
               refine norm_ (a' := ?_) ?_ ?_
               rotate_left
               ·show Act.put _ (some 107) _ = _
                simp only [Act.put, sA, sB, sC, i64_w, i32_w]
                rfl
               refine pure_ (i := 29) (N := some 108) (v := ?_) (a' := ?_) (bs 81 1073741823) rfl rfl (any_of HT_.out (by kernel_rfl)) (fun _ _ _ h => h) (Or.inl ⟨by rfl, ?_⟩) ?_ ?_
               rotate_left
               ·intro w'
                go_simp
                with_reducible rfl
               rotate_left
               ·simp only [Act.put, sA, sB, sC, i64_w, i32_w]
                rfl
               refine pure_ (i := 30) (N := some 109) (v := ?_) (a' := ?_) (bs 81 2147483647) rfl rfl (any_of HT_.out (by kernel_rfl)) (fun _ _ _ h => h) (Or.inl ⟨by rfl, ?_⟩) ?_ ?_
               rotate_left
               ·intro w'
                go_simp
                with_reducible rfl
               rotate_left
               ·simp only [Act.put, sA, sB, sC, i64_w, i32_w]
                rfl
               refine pure_ (i := 31) (N := some 110) (v := ?_) (a' := ?_) (bs 81 4294967295) rfl rfl (any_of HT_.out (by kernel_rfl)) (fun _ _ _ h => h) (Or.inl ⟨by rfl, ?_⟩) ?_ ?_
               rotate_left
               ·intro w'
                go_simp
                with_reducible rfl
               rotate_left
               ·simp only [Act.put, sA, sB, sC, i64_w, i32_w]
                rfl
               refine pure_ (i := 32) (N := some 111) (v := ?_) (a' := ?_) (bs 81 8589934591) rfl rfl (any_of HT_.out (by kernel_rfl)) (fun _ _ _ h => h) (Or.inl ⟨by rfl, ?_⟩) ?_ ?_
               rotate_left
               ·intro w'
                go_simp
                with_reducible rfl
               rotate_left
               ·simp only [Act.put, sA, sB, sC, i64_w, i32_w]
                rfl
               refine pure_ (i := 33) (N := some 112) (v := ?_) (a' := ?_) (bs 81 17179869183) rfl rfl (any_of HT_.out (by kernel_rfl)) (fun _ _ _ h => h) (Or.inl ⟨by rfl, ?_⟩) ?_ ?_
               rotate_left
               ·intro w'
                go_simp
                with_reducible rfl
               rotate_left
               ·simp only [Act.put, sA, sB, sC, i64_w, i32_w]
                rfl
               refine pure_ (i := 34) (N := some 113) (v := ?_) (a' := ?_) (bs 81 34359738367) rfl rfl (any_of HT_.out (by kernel_rfl)) (fun _ _ _ h => h) (Or.inl ⟨by rfl, ?_⟩) ?_ ?_
               rotate_left
               ·intro w'
                go_simp
                with_reducible rfl
               rotate_left
               ·simp only [Act.put, sA, sB, sC, i64_w, i32_w]
                rfl
               refine pure_ (i := 36) (N := some 115) (v := ?_) (a' := ?_) (bs 81 103079215103) rfl rfl (any_of HT_.out (by kernel_rfl)) (fun _ _ _ h => h) (Or.inl ⟨by rfl, ?_⟩) ?_ ?_
               rotate_left
               ·intro w'
                go_simp
                with_reducible rfl
               rotate_left
               ·simp only [Act.put, sA, sB, sC, i64_w, i32_w]
                rfl
               refine pure_ (i := 37) (N := some 116) (v := ?_) (a' := ?_) (bs 81 240518168575) rfl rfl (any_of HT_.out (by kernel_rfl)) (fun _ _ _ h => h) (Or.inl ⟨by rfl, ?_⟩) ?_ ?_
               rotate_left
               ·intro w'
                go_simp
                with_reducible rfl
               rotate_left
               ·simp only [Act.put, sA, sB, sC, i64_w, i32_w]
                rfl
               refine take_ (i := 35) (N := some 114) (v := ?_) (a' := ?_) (bs 81 274877906943) rfl rfl (take_ofW HT_.out HW_.out (by kernel_rfl)) (fun _ _ _ h => h) (Or.inl ⟨by rfl, ?_⟩) hHeld ?_ ?_
               rotate_left
               ·rintro w' ⟨s0, s1, s2, s3, s4, s5, s6, s7, s8, s9, s10, s11, s12, s13, s14, s15, s16, s17⟩
                go_simp
                with_reducible rfl
               rotate_left
               ·simp only [Act.put, sA, sB, sC, i64_w, i32_w]
                rfl
               refine one_ (i := 38) (N := some 117) (bs 81 549755813887) rfl rfl (one_of HT_.out (by kernel_rfl)) (by decide) (fun K hK => ?_)
               refine Kd.R_lit_step (Kd.int .i64) _ 3 ?hg (N := 117) ?hd (xs := ([65535, 0, 65535] : List Int)) (inner := [.int .i64 65535, .int .i64 0, .int .i64 65535]) (ok := fun _ => True) (okp := fun _ => True) ?hr ?hp (fun _ hk => hk) trivial (Below.refl _ _) (Nat.le_refl _) (by simp) ?_; (case hd => rfl); (case hg => rfl); (case hr => first | (go_simp; done) | (go_simp; rfl)); (case hp => exact (Reps.one (show Kd.M (Kd.int .i64) _ _ _ 65535 [.int .i64 65535] from rfl) (Reps.one (show Kd.M (Kd.int .i64) _ _ _ 0 [.int .i64 0] from rfl) (Reps.one (show Kd.M (Kd.int .i64) _ _ _ 65535 [.int .i64 65535] from rfl) (Reps.none _ _)))))
               intro v461 w156 ho157 hb hg_ hnew_
               clear hg_ hnew_
               (first | rw [← Ny460.out] at ho157 | (simp only [Int.reduceToNat] at ho157; rw [← Ny460.out] at ho157))
               have HO462 := zl HB ho157
               have n0_ := Aside0.mk (Kd.R_elder' (by exact zr0 HO374) (Kd.R_base ho157) hb)
               have n1_ := Aside0.mk (Kd.R_elder' (by exact zr0 HO381) (Kd.R_base ho157) hb)
               have n2_ := Aside0.mk (Kd.R_elder' (by exact zr0 HO388) (Kd.R_base ho157) hb)
               have n3_ := Aside0.mk (Kd.R_elder' (by exact zr0 HO395) (Kd.R_base ho157) hb)
               have n4_ := Aside0.mk (Kd.R_elder' (by exact zr0 HO402) (Kd.R_base ho157) hb)
               have n5_ := Aside0.mk (Kd.R_elder' (by exact zr0 HO409) (Kd.R_base ho157) hb)
               have n6_ := Aside0.mk (Kd.R_elder' (by exact zr0 HO430) (Kd.R_base ho157) hb)
               have n7_ := Aside0.mk (Kd.R_elder' (by exact zr0 HO440) (Kd.R_base ho157) hb)
               have n8_ := Aside0.mk (Kd.R_elder' (by exact zr0 HO449) (Kd.R_base ho157) hb)
               have n9_ := Aside0.mk (Kd.R_elder' (by exact zr0 HO458) (Kd.R_base ho157) hb)
               replace BK376 := zk BK376 hb
               replace BK383 := zk BK383 hb
               replace BK390 := zk BK390 hb
               replace BK397 := zk BK397 hb
               replace BK404 := zk BK404 hb
               replace BK411 := zk BK411 hb
               replace BK432 := zk BK432 hb
               replace HB := zb HB hb
               clear HO374
               clear HO381
               clear HO388
               clear HO395
               clear HO402
               clear HO409
               clear HO430
               clear HO440
               clear HO449
               clear HO458
               have HO374 := n0_
               have HO381 := n1_
               have HO388 := n2_
               have HO395 := n3_
               have HO402 := n4_
               have HO409 := n5_
               have HO430 := n6_
               have HO440 := n7_
               have HO449 := n8_
               have HO458 := n9_
               clear n0_ n1_ n2_ n3_ n4_ n5_ n6_ n7_ n8_ n9_
               clear hb ho157
               obtain ⟨Ao158, co158, eo158⟩ := Kd.R_slice HO462.out
               (first | subst eo158 | (injection eo158 with f1_ f2_ f3_; have f4_ := f1_.symm; have f5_ := f3_.symm; clear f1_ f2_ f3_; subst f4_; subst f5_))
               refine hK.out _ _ ⟨(blk_cell BK376.out 0).trans rfl, (blk_cell BK376.out 1).trans rfl, (blk_cell BK376.out 2).trans rfl, (blk_cell BK383.out 0).trans rfl, (blk_cell BK383.out 1).trans rfl, (blk_cell BK383.out 2).trans rfl, (blk_cell BK390.out 0).trans rfl, (blk_cell BK390.out 1).trans rfl, (blk_cell BK390.out 2).trans rfl, (blk_cell BK397.out 0).trans rfl, (blk_cell BK397.out 1).trans rfl, (blk_cell BK397.out 2).trans rfl, (blk_cell BK404.out 0).trans rfl, (blk_cell BK404.out 1).trans rfl, (blk_cell BK404.out 2).trans rfl, (blk_cell BK411.out 0).trans rfl, (blk_cell BK411.out 1).trans rfl, (blk_cell BK411.out 2).trans rfl⟩ (fun hHeld => ?_)
               clear hK K
               refine norm_ (a' := ?_) ?_ ?_
               rotate_left
               ·show Act.put _ (some 117) _ = _
                simp only [Act.put, sA, sB, sC, i64_w, i32_w]
                rfl
               refine one_ (i := 39) (N := some 118) (bs 81 1099511627775) rfl rfl (one_of HT_.out (by kernel_rfl)) (by decide) (fun K hK => ?_)
               refine goes_ Try.func29 (by kernel_rfl) rfl #[.int .i64 3, .slice Ao158 y460.length co158] (by rfl) rfl rfl (by (try simp only [List.map_toArray, List.map_cons, List.map_nil]); first | done | rfl | (simp only [List.length_drop, List.length_take]; rfl)) ?_
               with_reducible refine (imageeditorlaw24_values.calls 3 (fun k_ => some k_ = (.slice Ao158 y460.length co158 : Value).ownBlock) (.slice Ao158 y460.length co158) y460 t463 t464 t465 w _ ?side1 ?side2 A24.out).mono ?_
               (case side1 => exact zb0 HB)
               (case side2 => exact Kd.R_tight rfl HO462.out)
               rintro e w159 ⟨v466, rfl, ho0, hb, hkp⟩
               refine ⟨_, rfl, ?_⟩
               have n0_ := Aside0.mk (Kd.R_mono (ok' := fun k_ => True) (Kd.R_keptB (HO374.out) hkp (fun k_ hk_ hs_ => (hk_.2) hs_)) (fun k_ hk_ => trivial))
               have n1_ := Aside0.mk (blk_kept (by exact zk0 BK376) hkp (fun hs_ => (fun e_ => (Kd.R_ne HO462.out BK376.out (by decide)) e_) hs_))
               have n2_ := Aside0.mk (Kd.R_mono (ok' := fun k_ => True) (Kd.R_keptB (HO381.out) hkp (fun k_ hk_ hs_ => (hk_.2) hs_)) (fun k_ hk_ => trivial))
               have n3_ := Aside0.mk (blk_kept (by exact zk0 BK383) hkp (fun hs_ => (fun e_ => (Kd.R_ne HO462.out BK383.out (by decide)) e_) hs_))
               have n4_ := Aside0.mk (Kd.R_mono (ok' := fun k_ => True) (Kd.R_keptB (HO388.out) hkp (fun k_ hk_ hs_ => (hk_.2) hs_)) (fun k_ hk_ => trivial))
               have n5_ := Aside0.mk (blk_kept (by exact zk0 BK390) hkp (fun hs_ => (fun e_ => (Kd.R_ne HO462.out BK390.out (by decide)) e_) hs_))
               have n6_ := Aside0.mk (Kd.R_mono (ok' := fun k_ => True) (Kd.R_keptB (HO395.out) hkp (fun k_ hk_ hs_ => (hk_.2) hs_)) (fun k_ hk_ => trivial))
               have n7_ := Aside0.mk (blk_kept (by exact zk0 BK397) hkp (fun hs_ => (fun e_ => (Kd.R_ne HO462.out BK397.out (by decide)) e_) hs_))
               have n8_ := Aside0.mk (Kd.R_mono (ok' := fun k_ => True) (Kd.R_keptB (HO402.out) hkp (fun k_ hk_ hs_ => (hk_.2) hs_)) (fun k_ hk_ => trivial))
               have n9_ := Aside0.mk (blk_kept (by exact zk0 BK404) hkp (fun hs_ => (fun e_ => (Kd.R_ne HO462.out BK404.out (by decide)) e_) hs_))
               have n10_ := Aside0.mk (Kd.R_mono (ok' := fun k_ => True) (Kd.R_keptB (HO409.out) hkp (fun k_ hk_ hs_ => (hk_.2) hs_)) (fun k_ hk_ => trivial))
               have n11_ := Aside0.mk (blk_kept (by exact zk0 BK411) hkp (fun hs_ => (fun e_ => (Kd.R_ne HO462.out BK411.out (by decide)) e_) hs_))
               have n12_ := Aside0.mk (Kd.R_mono (ok' := fun k_ => True) (Kd.R_keptB (HO430.out) hkp (fun k_ hk_ hs_ => (hk_.2) hs_)) (fun k_ hk_ => trivial))
               have n13_ := Aside0.mk (blk_kept (by exact zk0 BK432) hkp (fun hs_ => (fun e_ => (Kd.R_ne HO462.out BK432.out (by decide)) e_) hs_))
               have n14_ := Aside0.mk (Kd.R_mono (ok' := fun k_ => True) (Kd.R_keptB (HO440.out) hkp (fun k_ hk_ hs_ => (hk_.2) hs_)) (fun k_ hk_ => trivial))
               have n15_ := Aside0.mk (Kd.R_mono (ok' := fun k_ => True) (Kd.R_keptB (HO449.out) hkp (fun k_ hk_ hs_ => (hk_.2) hs_)) (fun k_ hk_ => trivial))
               have n16_ := Aside0.mk (Kd.R_mono (ok' := fun k_ => True) (Kd.R_keptB (HO458.out) hkp (fun k_ hk_ hs_ => (hk_.2) hs_)) (fun k_ hk_ => trivial))
               have n17_ := Aside0.mk (Kd.R_mono (ok' := fun k_ => True) ho0 (fun k_ hk_ => trivial))
               have n18_ := Aside0.mk (hb)
               clear HO374
               clear BK376
               clear HO381
               clear BK383
               clear HO388
               clear BK390
               clear HO395
               clear BK397
               clear HO402
               clear BK404
               clear HO409
               clear BK411
               clear HO430
               clear BK432
               clear HO440
               clear HO449
               clear HO458
               clear HB
               clear HO462
               have HO374 := n0_
               have BK376 := n1_
               have HO381 := n2_
               have BK383 := n3_
               have HO388 := n4_
               have BK390 := n5_
               have HO395 := n6_
               have BK397 := n7_
               have HO402 := n8_
               have BK404 := n9_
               have HO409 := n10_
               have BK411 := n11_
               have HO430 := n12_
               have BK432 := n13_
               have HO440 := n14_
               have HO449 := n15_
               have HO458 := n16_
               have HO467 := n17_
               have HB := n18_
               clear n0_ n1_ n2_ n3_ n4_ n5_ n6_ n7_ n8_ n9_ n10_ n11_ n12_ n13_ n14_ n15_ n16_ n17_ n18_
               (try clear hb)
               (try clear hkp)
               (try clear ho0)
               obtain ⟨Ao160, co160, eo160⟩ := Kd.R_slice HO467.out
               (first | subst eo160 | (injection eo160 with f1_ f2_ f3_; have f4_ := f1_.symm; have f5_ := f3_.symm; clear f1_ f2_ f3_; subst f4_; subst f5_))
               refine hK.out _ _ ⟨(blk_cell BK376.out 0).trans rfl, (blk_cell BK376.out 1).trans rfl, (blk_cell BK376.out 2).trans rfl, (blk_cell BK383.out 0).trans rfl, (blk_cell BK383.out 1).trans rfl, (blk_cell BK383.out 2).trans rfl, (blk_cell BK390.out 0).trans rfl, (blk_cell BK390.out 1).trans rfl, (blk_cell BK390.out 2).trans rfl, (blk_cell BK397.out 0).trans rfl, (blk_cell BK397.out 1).trans rfl, (blk_cell BK397.out 2).trans rfl, (blk_cell BK404.out 0).trans rfl, (blk_cell BK404.out 1).trans rfl, (blk_cell BK404.out 2).trans rfl, (blk_cell BK411.out 0).trans rfl, (blk_cell BK411.out 1).trans rfl, (blk_cell BK411.out 2).trans rfl⟩ (fun hHeld => ?_)
               clear hK K
               refine norm_ (a' := ?_) ?_ ?_
               rotate_left
               ·show Act.put _ (some 118) _ = _
                simp only [Act.put, sA, sB, sC, i64_w, i32_w]
                rfl
               refine one_ (i := 40) (N := some 119) (bs 81 2199023255551) rfl rfl (one_of HT_.out (by kernel_rfl)) (by decide) (fun K hK => ?_)
               refine goes_ Try.func11 (by kernel_rfl) rfl #[.agg #[.int .i64 t391, .int .i64 t392, .slice Ao83 t393.length co83], .agg #[.int .i64 t463, .int .i64 t464, .slice Ao160 t465.length co160]] (by rfl) rfl rfl (by (try simp only [List.map_toArray, List.map_cons, List.map_nil]); first | done | rfl | (simp only [List.length_drop, List.length_take]; rfl)) ?_
               with_reducible refine (imageeditorlaw24_same.calls k t391 t392 _ _ t393 t463 t464 _ _ t465 true _ ?side1 ?side2 ?side3 ?side4 A25.out).mono ?_
               (case side1 => repeat (first | exact (Kd.R_reads' HO395.out).2.2 | (with_reducible refine Kd.C_alloc ?_ _) | (with_reducible refine Kd.C_drewN ?_ _) | (with_reducible refine Kd.C_drew ?_)))
               (case side2 => exact (Kd.R_reads' HO395.out).2.1)
               (case side3 => repeat (first | exact (Kd.R_reads' HO467.out).2.2 | (with_reducible refine Kd.C_alloc ?_ _) | (with_reducible refine Kd.C_drewN ?_ _) | (with_reducible refine Kd.C_drew ?_)))
               (case side4 => exact (Kd.R_reads' HO467.out).2.1)
               rintro e w161 ⟨rfl, hb⟩
               refine ⟨_, rfl, ?_⟩
               replace HO374 := zr HO374 hb
               replace HO381 := zr HO381 hb
               replace HO388 := zr HO388 hb
               replace HO395 := zr HO395 hb
               replace HO402 := zr HO402 hb
               replace HO409 := zr HO409 hb
               replace HO430 := zr HO430 hb
               replace HO440 := zr HO440 hb
               replace HO449 := zr HO449 hb
               replace HO458 := zr HO458 hb
               replace HO467 := zr HO467 hb
               replace BK376 := zk BK376 hb
               replace BK383 := zk BK383 hb
               replace BK390 := zk BK390 hb
               replace BK397 := zk BK397 hb
               replace BK404 := zk BK404 hb
               replace BK411 := zk BK411 hb
               replace BK432 := zk BK432 hb
               replace HB := zb HB hb
               (try clear hb)
               (try clear hb2)
               (try clear hk)
               (try clear hi)
               refine hK.out _ _ ⟨(blk_cell BK376.out 0).trans rfl, (blk_cell BK376.out 1).trans rfl, (blk_cell BK376.out 2).trans rfl, (blk_cell BK383.out 0).trans rfl, (blk_cell BK383.out 1).trans rfl, (blk_cell BK383.out 2).trans rfl, (blk_cell BK390.out 0).trans rfl, (blk_cell BK390.out 1).trans rfl, (blk_cell BK390.out 2).trans rfl, (blk_cell BK397.out 0).trans rfl, (blk_cell BK397.out 1).trans rfl, (blk_cell BK397.out 2).trans rfl, (blk_cell BK404.out 0).trans rfl, (blk_cell BK404.out 1).trans rfl, (blk_cell BK404.out 2).trans rfl, (blk_cell BK411.out 0).trans rfl, (blk_cell BK411.out 1).trans rfl, (blk_cell BK411.out 2).trans rfl⟩ (fun hHeld => ?_)
               clear hK K
               refine norm_ (a' := ?_) ?_ ?_
               rotate_left
               ·show Act.put _ (some 119) _ = _
                simp only [Act.put, sA, sB, sC, i64_w, i32_w]
                rfl
               refine pure_ (i := 41) (N := some 120) (v := ?_) (a' := ?_) (bs 81 4398046511103) rfl rfl (any_of HT_.out (by kernel_rfl)) (fun _ _ _ h => h) (Or.inl ⟨by rfl, ?_⟩) ?_ ?_
               rotate_left
               ·intro w'
                go_simp
                with_reducible rfl
               rotate_left
               ·simp only [Act.put, sA, sB, sC, i64_w, i32_w]
                rfl
               refine pure_ (i := 42) (N := some 121) (v := ?_) (a' := ?_) (bs 81 8796093022207) rfl rfl (any_of HT_.out (by kernel_rfl)) (fun _ _ _ h => h) (Or.inl ⟨by rfl, ?_⟩) ?_ ?_
               rotate_left
               ·intro w'
                go_simp
                with_reducible rfl
               rotate_left
               ·simp only [Act.put, sA, sB, sC, i64_w, i32_w]
                rfl
               refine pure_ (i := 43) (N := some 122) (v := ?_) (a' := ?_) (bs 81 17592186044415) rfl rfl (any_of HT_.out (by kernel_rfl)) (fun _ _ _ h => h) (Or.inl ⟨by rfl, ?_⟩) ?_ ?_
               rotate_left
               ·intro w'
                go_simp
                with_reducible rfl
               rotate_left
               ·simp only [Act.put, sA, sB, sC, i64_w, i32_w]
                rfl
               refine pure_ (i := 44) (N := some 123) (v := ?_) (a' := ?_) (bs 81 35184372088831) rfl rfl (any_of HT_.out (by kernel_rfl)) (fun _ _ _ h => h) (Or.inl ⟨by rfl, ?_⟩) ?_ ?_
               rotate_left
               ·intro w'
                go_simp
                with_reducible rfl
               rotate_left
               ·simp only [Act.put, sA, sB, sC, i64_w, i32_w]
                rfl
               refine pure_ (i := 45) (N := some 124) (v := ?_) (a' := ?_) (bs 81 70368744177663) rfl rfl (any_of HT_.out (by kernel_rfl)) (fun _ _ _ h => h) (Or.inl ⟨by rfl, ?_⟩) ?_ ?_
               rotate_left
               ·intro w'
                go_simp
                with_reducible rfl
               rotate_left
               ·simp only [Act.put, sA, sB, sC, i64_w, i32_w]
                rfl
               refine pure_ (i := 46) (N := some 125) (v := ?_) (a' := ?_) (bs 81 140737488355327) rfl rfl (any_of HT_.out (by kernel_rfl)) (fun _ _ _ h => h) (Or.inl ⟨by rfl, ?_⟩) ?_ ?_
               rotate_left
               ·intro w'
                go_simp
                with_reducible rfl
               rotate_left
               ·simp only [Act.put, sA, sB, sC, i64_w, i32_w]
                rfl
               refine pure_ (i := 48) (N := some 127) (v := ?_) (a' := ?_) (bs 81 422212465065983) rfl rfl (any_of HT_.out (by kernel_rfl)) (fun _ _ _ h => h) (Or.inl ⟨by rfl, ?_⟩) ?_ ?_
               rotate_left
               ·intro w'
                go_simp
                with_reducible rfl
               rotate_left
               ·simp only [Act.put, sA, sB, sC, i64_w, i32_w]
                rfl
               refine pure_ (i := 49) (N := some 128) (v := ?_) (a' := ?_) (bs 81 985162418487295) rfl rfl (any_of HT_.out (by kernel_rfl)) (fun _ _ _ h => h) (Or.inl ⟨by rfl, ?_⟩) ?_ ?_
               rotate_left
               ·intro w'
                go_simp
                with_reducible rfl
               rotate_left
               ·simp only [Act.put, sA, sB, sC, i64_w, i32_w]
                rfl
               refine take_ (i := 47) (N := some 126) (v := ?_) (a' := ?_) (bs 81 1125899906842623) rfl rfl (take_ofW HT_.out HW_.out (by kernel_rfl)) (fun _ _ _ h => h) (Or.inl ⟨by rfl, ?_⟩) hHeld ?_ ?_
               rotate_left
               ·rintro w' ⟨s0, s1, s2, s3, s4, s5, s6, s7, s8, s9, s10, s11, s12, s13, s14, s15, s16, s17⟩
                go_simp
                with_reducible rfl
               rotate_left
               ·simp only [Act.put, sA, sB, sC, i64_w, i32_w]
                rfl
               refine one_ (i := 50) (N := some 129) (bs 81 2251799813685247) rfl rfl (one_of HT_.out (by kernel_rfl)) (by decide) (fun K hK => ?_)
               refine Kd.R_lit_step (Kd.int .i64) _ 3 ?hg (N := 129) ?hd (xs := ([65535, 32768, 65535] : List Int)) (inner := [.int .i64 65535, .int .i64 32768, .int .i64 65535]) (ok := fun _ => True) (okp := fun _ => True) ?hr ?hp (fun _ hk => hk) trivial (Below.refl _ _) (Nat.le_refl _) (by simp) ?_; (case hd => rfl); (case hg => rfl); (case hr => first | (go_simp; done) | (go_simp; rfl)); (case hp => exact (Reps.one (show Kd.M (Kd.int .i64) _ _ _ 65535 [.int .i64 65535] from rfl) (Reps.one (show Kd.M (Kd.int .i64) _ _ _ 32768 [.int .i64 32768] from rfl) (Reps.one (show Kd.M (Kd.int .i64) _ _ _ 65535 [.int .i64 65535] from rfl) (Reps.none _ _)))))
               intro v470 w162 ho163 hb hg_ hnew_
               clear hg_ hnew_
               (first | rw [← Ny469.out] at ho163 | (simp only [Int.reduceToNat] at ho163; rw [← Ny469.out] at ho163))
               have HO471 := zl HB ho163
               have n0_ := Aside0.mk (Kd.R_elder' (by exact zr0 HO374) (Kd.R_base ho163) hb)
               have n1_ := Aside0.mk (Kd.R_elder' (by exact zr0 HO381) (Kd.R_base ho163) hb)
               have n2_ := Aside0.mk (Kd.R_elder' (by exact zr0 HO388) (Kd.R_base ho163) hb)
               have n3_ := Aside0.mk (Kd.R_elder' (by exact zr0 HO395) (Kd.R_base ho163) hb)
               have n4_ := Aside0.mk (Kd.R_elder' (by exact zr0 HO402) (Kd.R_base ho163) hb)
               have n5_ := Aside0.mk (Kd.R_elder' (by exact zr0 HO409) (Kd.R_base ho163) hb)
               have n6_ := Aside0.mk (Kd.R_elder' (by exact zr0 HO430) (Kd.R_base ho163) hb)
               have n7_ := Aside0.mk (Kd.R_elder' (by exact zr0 HO440) (Kd.R_base ho163) hb)
               have n8_ := Aside0.mk (Kd.R_elder' (by exact zr0 HO449) (Kd.R_base ho163) hb)
               have n9_ := Aside0.mk (Kd.R_elder' (by exact zr0 HO458) (Kd.R_base ho163) hb)
               have n10_ := Aside0.mk (Kd.R_elder' (by exact zr0 HO467) (Kd.R_base ho163) hb)
               replace BK376 := zk BK376 hb
               replace BK383 := zk BK383 hb
               replace BK390 := zk BK390 hb
               replace BK397 := zk BK397 hb
               replace BK404 := zk BK404 hb
               replace BK411 := zk BK411 hb
               replace BK432 := zk BK432 hb
               replace HB := zb HB hb
               clear HO374
               clear HO381
               clear HO388
               clear HO395
               clear HO402
               clear HO409
               clear HO430
               clear HO440
               clear HO449
               clear HO458
               clear HO467
               have HO374 := n0_
               have HO381 := n1_
               have HO388 := n2_
               have HO395 := n3_
               have HO402 := n4_
               have HO409 := n5_
               have HO430 := n6_
               have HO440 := n7_
               have HO449 := n8_
               have HO458 := n9_
               have HO467 := n10_
               clear n0_ n1_ n2_ n3_ n4_ n5_ n6_ n7_ n8_ n9_ n10_
               clear hb ho163
               obtain ⟨Ao164, co164, eo164⟩ := Kd.R_slice HO471.out
               (first | subst eo164 | (injection eo164 with f1_ f2_ f3_; have f4_ := f1_.symm; have f5_ := f3_.symm; clear f1_ f2_ f3_; subst f4_; subst f5_))
               refine hK.out _ _ ⟨(blk_cell BK376.out 0).trans rfl, (blk_cell BK376.out 1).trans rfl, (blk_cell BK376.out 2).trans rfl, (blk_cell BK383.out 0).trans rfl, (blk_cell BK383.out 1).trans rfl, (blk_cell BK383.out 2).trans rfl, (blk_cell BK390.out 0).trans rfl, (blk_cell BK390.out 1).trans rfl, (blk_cell BK390.out 2).trans rfl, (blk_cell BK397.out 0).trans rfl, (blk_cell BK397.out 1).trans rfl, (blk_cell BK397.out 2).trans rfl, (blk_cell BK404.out 0).trans rfl, (blk_cell BK404.out 1).trans rfl, (blk_cell BK404.out 2).trans rfl, (blk_cell BK411.out 0).trans rfl, (blk_cell BK411.out 1).trans rfl, (blk_cell BK411.out 2).trans rfl⟩ (fun hHeld => ?_)
               clear hK K
               refine norm_ (a' := ?_) ?_ ?_
               rotate_left
               ·show Act.put _ (some 129) _ = _
                simp only [Act.put, sA, sB, sC, i64_w, i32_w]
                rfl
               refine one_ (i := 51) (N := some 130) (bs 81 4503599627370495) rfl rfl (one_of HT_.out (by kernel_rfl)) (by decide) (fun K hK => ?_)
               refine goes_ Try.func29 (by kernel_rfl) rfl #[.int .i64 3, .slice Ao164 y469.length co164] (by rfl) rfl rfl (by (try simp only [List.map_toArray, List.map_cons, List.map_nil]); first | done | rfl | (simp only [List.length_drop, List.length_take]; rfl)) ?_
               with_reducible refine (imageeditorlaw24_values.calls 3 (fun k_ => some k_ = (.slice Ao164 y469.length co164 : Value).ownBlock) (.slice Ao164 y469.length co164) y469 t472 t473 t474 w _ ?side1 ?side2 A28.out).mono ?_
               (case side1 => exact zb0 HB)
               (case side2 => exact Kd.R_tight rfl HO471.out)
               rintro e w165 ⟨v475, rfl, ho0, hb, hkp⟩
               refine ⟨_, rfl, ?_⟩
               have n0_ := Aside0.mk (Kd.R_mono (ok' := fun k_ => True) (Kd.R_keptB (HO374.out) hkp (fun k_ hk_ hs_ => (hk_.2) hs_)) (fun k_ hk_ => trivial))
               have n1_ := Aside0.mk (blk_kept (by exact zk0 BK376) hkp (fun hs_ => (fun e_ => (Kd.R_ne HO471.out BK376.out (by decide)) e_) hs_))
               have n2_ := Aside0.mk (Kd.R_mono (ok' := fun k_ => True) (Kd.R_keptB (HO381.out) hkp (fun k_ hk_ hs_ => (hk_.2) hs_)) (fun k_ hk_ => trivial))
               have n3_ := Aside0.mk (blk_kept (by exact zk0 BK383) hkp (fun hs_ => (fun e_ => (Kd.R_ne HO471.out BK383.out (by decide)) e_) hs_))
               have n4_ := Aside0.mk (Kd.R_mono (ok' := fun k_ => True) (Kd.R_keptB (HO388.out) hkp (fun k_ hk_ hs_ => (hk_.2) hs_)) (fun k_ hk_ => trivial))
               have n5_ := Aside0.mk (blk_kept (by exact zk0 BK390) hkp (fun hs_ => (fun e_ => (Kd.R_ne HO471.out BK390.out (by decide)) e_) hs_))
               have n6_ := Aside0.mk (Kd.R_mono (ok' := fun k_ => True) (Kd.R_keptB (HO395.out) hkp (fun k_ hk_ hs_ => (hk_.2) hs_)) (fun k_ hk_ => trivial))
               have n7_ := Aside0.mk (blk_kept (by exact zk0 BK397) hkp (fun hs_ => (fun e_ => (Kd.R_ne HO471.out BK397.out (by decide)) e_) hs_))
               have n8_ := Aside0.mk (Kd.R_mono (ok' := fun k_ => True) (Kd.R_keptB (HO402.out) hkp (fun k_ hk_ hs_ => (hk_.2) hs_)) (fun k_ hk_ => trivial))
               have n9_ := Aside0.mk (blk_kept (by exact zk0 BK404) hkp (fun hs_ => (fun e_ => (Kd.R_ne HO471.out BK404.out (by decide)) e_) hs_))
               have n10_ := Aside0.mk (Kd.R_mono (ok' := fun k_ => True) (Kd.R_keptB (HO409.out) hkp (fun k_ hk_ hs_ => (hk_.2) hs_)) (fun k_ hk_ => trivial))
               have n11_ := Aside0.mk (blk_kept (by exact zk0 BK411) hkp (fun hs_ => (fun e_ => (Kd.R_ne HO471.out BK411.out (by decide)) e_) hs_))
               have n12_ := Aside0.mk (Kd.R_mono (ok' := fun k_ => True) (Kd.R_keptB (HO430.out) hkp (fun k_ hk_ hs_ => (hk_.2) hs_)) (fun k_ hk_ => trivial))
               have n13_ := Aside0.mk (blk_kept (by exact zk0 BK432) hkp (fun hs_ => (fun e_ => (Kd.R_ne HO471.out BK432.out (by decide)) e_) hs_))
               have n14_ := Aside0.mk (Kd.R_mono (ok' := fun k_ => True) (Kd.R_keptB (HO440.out) hkp (fun k_ hk_ hs_ => (hk_.2) hs_)) (fun k_ hk_ => trivial))
               have n15_ := Aside0.mk (Kd.R_mono (ok' := fun k_ => True) (Kd.R_keptB (HO449.out) hkp (fun k_ hk_ hs_ => (hk_.2) hs_)) (fun k_ hk_ => trivial))
               have n16_ := Aside0.mk (Kd.R_mono (ok' := fun k_ => True) (Kd.R_keptB (HO458.out) hkp (fun k_ hk_ hs_ => (hk_.2) hs_)) (fun k_ hk_ => trivial))
               have n17_ := Aside0.mk (Kd.R_mono (ok' := fun k_ => True) (Kd.R_keptB (HO467.out) hkp (fun k_ hk_ hs_ => (hk_.2) hs_)) (fun k_ hk_ => trivial))
               have n18_ := Aside0.mk (Kd.R_mono (ok' := fun k_ => True) ho0 (fun k_ hk_ => trivial))
               have n19_ := Aside0.mk (hb)
               clear HO374
               clear BK376
               clear HO381
               clear BK383
               clear HO388
               clear BK390
               clear HO395
               clear BK397
               clear HO402
               clear BK404
               clear HO409
               clear BK411
               clear HO430
               clear BK432
               clear HO440
               clear HO449
               clear HO458
               clear HO467
               clear HB
               clear HO471
               have HO374 := n0_
               have BK376 := n1_
               have HO381 := n2_
               have BK383 := n3_
               have HO388 := n4_
               have BK390 := n5_
               have HO395 := n6_
               have BK397 := n7_
               have HO402 := n8_
               have BK404 := n9_
               have HO409 := n10_
               have BK411 := n11_
               have HO430 := n12_
               have BK432 := n13_
               have HO440 := n14_
               have HO449 := n15_
               have HO458 := n16_
               have HO467 := n17_
               have HO476 := n18_
               have HB := n19_
               clear n0_ n1_ n2_ n3_ n4_ n5_ n6_ n7_ n8_ n9_ n10_ n11_ n12_ n13_ n14_ n15_ n16_ n17_ n18_ n19_
               (try clear hb)
               (try clear hkp)
               (try clear ho0)
               obtain ⟨Ao166, co166, eo166⟩ := Kd.R_slice HO476.out
               (first | subst eo166 | (injection eo166 with f1_ f2_ f3_; have f4_ := f1_.symm; have f5_ := f3_.symm; clear f1_ f2_ f3_; subst f4_; subst f5_))
               refine hK.out _ _ ⟨(blk_cell BK376.out 0).trans rfl, (blk_cell BK376.out 1).trans rfl, (blk_cell BK376.out 2).trans rfl, (blk_cell BK383.out 0).trans rfl, (blk_cell BK383.out 1).trans rfl, (blk_cell BK383.out 2).trans rfl, (blk_cell BK390.out 0).trans rfl, (blk_cell BK390.out 1).trans rfl, (blk_cell BK390.out 2).trans rfl, (blk_cell BK397.out 0).trans rfl, (blk_cell BK397.out 1).trans rfl, (blk_cell BK397.out 2).trans rfl, (blk_cell BK404.out 0).trans rfl, (blk_cell BK404.out 1).trans rfl, (blk_cell BK404.out 2).trans rfl, (blk_cell BK411.out 0).trans rfl, (blk_cell BK411.out 1).trans rfl, (blk_cell BK411.out 2).trans rfl⟩ (fun hHeld => ?_)
               clear hK K
               refine norm_ (a' := ?_) ?_ ?_
               rotate_left
               ·show Act.put _ (some 130) _ = _
                simp only [Act.put, sA, sB, sC, i64_w, i32_w]
                rfl
               refine one_ (i := 52) (N := some 131) (bs 81 9007199254740991) rfl rfl (one_of HT_.out (by kernel_rfl)) (by decide) (fun K hK => ?_)
               refine goes_ Try.func11 (by kernel_rfl) rfl #[.agg #[.int .i64 t398, .int .i64 t399, .slice Ao93 t400.length co93], .agg #[.int .i64 t472, .int .i64 t473, .slice Ao166 t474.length co166]] (by rfl) rfl rfl (by (try simp only [List.map_toArray, List.map_cons, List.map_nil]); first | done | rfl | (simp only [List.length_drop, List.length_take]; rfl)) ?_
               with_reducible refine (imageeditorlaw24_same.calls k t398 t399 _ _ t400 t472 t473 _ _ t474 true _ ?side1 ?side2 ?side3 ?side4 A29.out).mono ?_
               (case side1 => repeat (first | exact (Kd.R_reads' HO402.out).2.2 | (with_reducible refine Kd.C_alloc ?_ _) | (with_reducible refine Kd.C_drewN ?_ _) | (with_reducible refine Kd.C_drew ?_)))
               (case side2 => exact (Kd.R_reads' HO402.out).2.1)
               (case side3 => repeat (first | exact (Kd.R_reads' HO476.out).2.2 | (with_reducible refine Kd.C_alloc ?_ _) | (with_reducible refine Kd.C_drewN ?_ _) | (with_reducible refine Kd.C_drew ?_)))
               (case side4 => exact (Kd.R_reads' HO476.out).2.1)
               rintro e w167 ⟨rfl, hb⟩
               refine ⟨_, rfl, ?_⟩
               replace HO374 := zr HO374 hb
               replace HO381 := zr HO381 hb
               replace HO388 := zr HO388 hb
               replace HO395 := zr HO395 hb
               replace HO402 := zr HO402 hb
               replace HO409 := zr HO409 hb
               replace HO430 := zr HO430 hb
               replace HO440 := zr HO440 hb
               replace HO449 := zr HO449 hb
               replace HO458 := zr HO458 hb
               replace HO467 := zr HO467 hb
               replace HO476 := zr HO476 hb
               replace BK376 := zk BK376 hb
               replace BK383 := zk BK383 hb
               replace BK390 := zk BK390 hb
               replace BK397 := zk BK397 hb
               replace BK404 := zk BK404 hb
               replace BK411 := zk BK411 hb
               replace BK432 := zk BK432 hb
               replace HB := zb HB hb
               (try clear hb)
               (try clear hb2)
               (try clear hk)
               (try clear hi)
               refine hK.out _ _ ⟨(blk_cell BK376.out 0).trans rfl, (blk_cell BK376.out 1).trans rfl, (blk_cell BK376.out 2).trans rfl, (blk_cell BK383.out 0).trans rfl, (blk_cell BK383.out 1).trans rfl, (blk_cell BK383.out 2).trans rfl, (blk_cell BK390.out 0).trans rfl, (blk_cell BK390.out 1).trans rfl, (blk_cell BK390.out 2).trans rfl, (blk_cell BK397.out 0).trans rfl, (blk_cell BK397.out 1).trans rfl, (blk_cell BK397.out 2).trans rfl, (blk_cell BK404.out 0).trans rfl, (blk_cell BK404.out 1).trans rfl, (blk_cell BK404.out 2).trans rfl, (blk_cell BK411.out 0).trans rfl, (blk_cell BK411.out 1).trans rfl, (blk_cell BK411.out 2).trans rfl⟩ (fun hHeld => ?_)
               clear hK K
               refine norm_ (a' := ?_) ?_ ?_
               rotate_left
               ·show Act.put _ (some 131) _ = _
                simp only [Act.put, sA, sB, sC, i64_w, i32_w]
                rfl
               refine pure_ (i := 53) (N := some 132) (v := ?_) (a' := ?_) (bs 81 18014398509481983) rfl rfl (any_of HT_.out (by kernel_rfl)) (fun _ _ _ h => h) (Or.inl ⟨by rfl, ?_⟩) ?_ ?_
               rotate_left
               ·intro w'
                go_simp
                with_reducible rfl
               rotate_left
               ·simp only [Act.put, sA, sB, sC, i64_w, i32_w]
                rfl
               refine pure_ (i := 54) (N := some 133) (v := ?_) (a' := ?_) (bs 81 36028797018963967) rfl rfl (any_of HT_.out (by kernel_rfl)) (fun _ _ _ h => h) (Or.inl ⟨by rfl, ?_⟩) ?_ ?_
               rotate_left
               ·intro w'
                go_simp
                with_reducible rfl
               rotate_left
               ·simp only [Act.put, sA, sB, sC, i64_w, i32_w]
                rfl
               refine pure_ (i := 55) (N := some 134) (v := ?_) (a' := ?_) (bs 81 72057594037927935) rfl rfl (any_of HT_.out (by kernel_rfl)) (fun _ _ _ h => h) (Or.inl ⟨by rfl, ?_⟩) ?_ ?_
               rotate_left
               ·intro w'
                go_simp
                with_reducible rfl
               rotate_left
               ·simp only [Act.put, sA, sB, sC, i64_w, i32_w]
                rfl
               refine pure_ (i := 56) (N := some 135) (v := ?_) (a' := ?_) (bs 81 144115188075855871) rfl rfl (any_of HT_.out (by kernel_rfl)) (fun _ _ _ h => h) (Or.inl ⟨by rfl, ?_⟩) ?_ ?_
               rotate_left
               ·intro w'
                go_simp
                with_reducible rfl
               rotate_left
               ·simp only [Act.put, sA, sB, sC, i64_w, i32_w]
                rfl
               refine pure_ (i := 57) (N := some 136) (v := ?_) (a' := ?_) (bs 81 288230376151711743) rfl rfl (any_of HT_.out (by kernel_rfl)) (fun _ _ _ h => h) (Or.inl ⟨by rfl, ?_⟩) ?_ ?_
               rotate_left
               ·intro w'
                go_simp
                with_reducible rfl
               rotate_left
               ·simp only [Act.put, sA, sB, sC, i64_w, i32_w]
                rfl
               refine pure_ (i := 58) (N := some 137) (v := ?_) (a' := ?_) (bs 81 576460752303423487) rfl rfl (any_of HT_.out (by kernel_rfl)) (fun _ _ _ h => h) (Or.inl ⟨by rfl, ?_⟩) ?_ ?_
               rotate_left
               ·intro w'
                go_simp
                with_reducible rfl
               rotate_left
               ·simp only [Act.put, sA, sB, sC, i64_w, i32_w]
                rfl
               refine take_ (i := 59) (N := some 138) (v := ?_) (a' := ?_) (bs 81 1152921504606846975) rfl rfl (take_ofW HT_.out HW_.out (by kernel_rfl)) (fun _ _ _ h => h) (Or.inl ⟨by rfl, ?_⟩) hHeld ?_ ?_
               rotate_left
               ·rintro w' ⟨s0, s1, s2, s3, s4, s5, s6, s7, s8, s9, s10, s11, s12, s13, s14, s15, s16, s17⟩
                go_simp
                with_reducible rfl
               rotate_left
               ·simp only [Act.put, sA, sB, sC, i64_w, i32_w]
                rfl
               refine one_ (i := 60) (N := some 139) (bs 81 2305843009213693951) rfl rfl (one_of HT_.out (by kernel_rfl)) (by decide) (fun K hK => ?_)
               refine Kd.R_lit_step (Kd.int .i64) _ 3 ?hg (N := 139) ?hd (xs := ([0, 0, 0] : List Int)) (inner := [.int .i64 0, .int .i64 0, .int .i64 0]) (ok := fun _ => True) (okp := fun _ => True) ?hr ?hp (fun _ hk => hk) trivial (Below.refl _ _) (Nat.le_refl _) (by simp) ?_; (case hd => rfl); (case hg => rfl); (case hr => first | (go_simp; done) | (go_simp; rfl)); (case hp => exact (Reps.one (show Kd.M (Kd.int .i64) _ _ _ 0 [.int .i64 0] from rfl) (Reps.one (show Kd.M (Kd.int .i64) _ _ _ 0 [.int .i64 0] from rfl) (Reps.one (show Kd.M (Kd.int .i64) _ _ _ 0 [.int .i64 0] from rfl) (Reps.none _ _)))))
               intro v479 w168 ho169 hb hg_ hnew_
               clear hg_ hnew_
               (first | rw [← Ny478.out] at ho169 | (simp only [Int.reduceToNat] at ho169; rw [← Ny478.out] at ho169))
               have HO480 := zl HB ho169
               have n0_ := Aside0.mk (Kd.R_elder' (by exact zr0 HO374) (Kd.R_base ho169) hb)
               have n1_ := Aside0.mk (Kd.R_elder' (by exact zr0 HO381) (Kd.R_base ho169) hb)
               have n2_ := Aside0.mk (Kd.R_elder' (by exact zr0 HO388) (Kd.R_base ho169) hb)
               have n3_ := Aside0.mk (Kd.R_elder' (by exact zr0 HO395) (Kd.R_base ho169) hb)
               have n4_ := Aside0.mk (Kd.R_elder' (by exact zr0 HO402) (Kd.R_base ho169) hb)
               have n5_ := Aside0.mk (Kd.R_elder' (by exact zr0 HO409) (Kd.R_base ho169) hb)
               have n6_ := Aside0.mk (Kd.R_elder' (by exact zr0 HO430) (Kd.R_base ho169) hb)
               have n7_ := Aside0.mk (Kd.R_elder' (by exact zr0 HO440) (Kd.R_base ho169) hb)
               have n8_ := Aside0.mk (Kd.R_elder' (by exact zr0 HO449) (Kd.R_base ho169) hb)
               have n9_ := Aside0.mk (Kd.R_elder' (by exact zr0 HO458) (Kd.R_base ho169) hb)
               have n10_ := Aside0.mk (Kd.R_elder' (by exact zr0 HO467) (Kd.R_base ho169) hb)
               have n11_ := Aside0.mk (Kd.R_elder' (by exact zr0 HO476) (Kd.R_base ho169) hb)
               replace BK376 := zk BK376 hb
               replace BK383 := zk BK383 hb
               replace BK390 := zk BK390 hb
               replace BK397 := zk BK397 hb
               replace BK404 := zk BK404 hb
               replace BK411 := zk BK411 hb
               replace BK432 := zk BK432 hb
               replace HB := zb HB hb
               clear HO374
               clear HO381
               clear HO388
               clear HO395
               clear HO402
               clear HO409
               clear HO430
               clear HO440
               clear HO449
               clear HO458
               clear HO467
               clear HO476
               have HO374 := n0_
               have HO381 := n1_
               have HO388 := n2_
               have HO395 := n3_
               have HO402 := n4_
               have HO409 := n5_
               have HO430 := n6_
               have HO440 := n7_
               have HO449 := n8_
               have HO458 := n9_
               have HO467 := n10_
               have HO476 := n11_
               clear n0_ n1_ n2_ n3_ n4_ n5_ n6_ n7_ n8_ n9_ n10_ n11_
               clear hb ho169
               obtain ⟨Ao170, co170, eo170⟩ := Kd.R_slice HO480.out
               (first | subst eo170 | (injection eo170 with f1_ f2_ f3_; have f4_ := f1_.symm; have f5_ := f3_.symm; clear f1_ f2_ f3_; subst f4_; subst f5_))
               refine hK.out _ _ ⟨(blk_cell BK376.out 0).trans rfl, (blk_cell BK376.out 1).trans rfl, (blk_cell BK376.out 2).trans rfl, (blk_cell BK383.out 0).trans rfl, (blk_cell BK383.out 1).trans rfl, (blk_cell BK383.out 2).trans rfl, (blk_cell BK390.out 0).trans rfl, (blk_cell BK390.out 1).trans rfl, (blk_cell BK390.out 2).trans rfl, (blk_cell BK397.out 0).trans rfl, (blk_cell BK397.out 1).trans rfl, (blk_cell BK397.out 2).trans rfl, (blk_cell BK404.out 0).trans rfl, (blk_cell BK404.out 1).trans rfl, (blk_cell BK404.out 2).trans rfl, (blk_cell BK411.out 0).trans rfl, (blk_cell BK411.out 1).trans rfl, (blk_cell BK411.out 2).trans rfl⟩ (fun hHeld => ?_)
               clear hK K
               refine norm_ (a' := ?_) ?_ ?_
               rotate_left
               ·show Act.put _ (some 139) _ = _
                simp only [Act.put, sA, sB, sC, i64_w, i32_w]
                rfl
               refine one_ (i := 61) (N := some 140) (bs 81 4611686018427387903) rfl rfl (one_of HT_.out (by kernel_rfl)) (by decide) (fun K hK => ?_)
               refine goes_ Try.func29 (by kernel_rfl) rfl #[.int .i64 3, .slice Ao170 y478.length co170] (by rfl) rfl rfl (by (try simp only [List.map_toArray, List.map_cons, List.map_nil]); first | done | rfl | (simp only [List.length_drop, List.length_take]; rfl)) ?_
               with_reducible refine (imageeditorlaw24_values.calls 3 (fun k_ => some k_ = (.slice Ao170 y478.length co170 : Value).ownBlock) (.slice Ao170 y478.length co170) y478 t481 t482 t483 w _ ?side1 ?side2 A32.out).mono ?_
               (case side1 => exact zb0 HB)
               (case side2 => exact Kd.R_tight rfl HO480.out)
               rintro e w171 ⟨v484, rfl, ho0, hb, hkp⟩
               refine ⟨_, rfl, ?_⟩
               have n0_ := Aside0.mk (Kd.R_mono (ok' := fun k_ => True) (Kd.R_keptB (HO374.out) hkp (fun k_ hk_ hs_ => (hk_.2) hs_)) (fun k_ hk_ => trivial))
               have n1_ := Aside0.mk (blk_kept (by exact zk0 BK376) hkp (fun hs_ => (fun e_ => (Kd.R_ne HO480.out BK376.out (by decide)) e_) hs_))
               have n2_ := Aside0.mk (Kd.R_mono (ok' := fun k_ => True) (Kd.R_keptB (HO381.out) hkp (fun k_ hk_ hs_ => (hk_.2) hs_)) (fun k_ hk_ => trivial))
               have n3_ := Aside0.mk (blk_kept (by exact zk0 BK383) hkp (fun hs_ => (fun e_ => (Kd.R_ne HO480.out BK383.out (by decide)) e_) hs_))
               have n4_ := Aside0.mk (Kd.R_mono (ok' := fun k_ => True) (Kd.R_keptB (HO388.out) hkp (fun k_ hk_ hs_ => (hk_.2) hs_)) (fun k_ hk_ => trivial))
               have n5_ := Aside0.mk (blk_kept (by exact zk0 BK390) hkp (fun hs_ => (fun e_ => (Kd.R_ne HO480.out BK390.out (by decide)) e_) hs_))
               have n6_ := Aside0.mk (Kd.R_mono (ok' := fun k_ => True) (Kd.R_keptB (HO395.out) hkp (fun k_ hk_ hs_ => (hk_.2) hs_)) (fun k_ hk_ => trivial))
               have n7_ := Aside0.mk (blk_kept (by exact zk0 BK397) hkp (fun hs_ => (fun e_ => (Kd.R_ne HO480.out BK397.out (by decide)) e_) hs_))
               have n8_ := Aside0.mk (Kd.R_mono (ok' := fun k_ => True) (Kd.R_keptB (HO402.out) hkp (fun k_ hk_ hs_ => (hk_.2) hs_)) (fun k_ hk_ => trivial))
               have n9_ := Aside0.mk (blk_kept (by exact zk0 BK404) hkp (fun hs_ => (fun e_ => (Kd.R_ne HO480.out BK404.out (by decide)) e_) hs_))
               have n10_ := Aside0.mk (Kd.R_mono (ok' := fun k_ => True) (Kd.R_keptB (HO409.out) hkp (fun k_ hk_ hs_ => (hk_.2) hs_)) (fun k_ hk_ => trivial))
               have n11_ := Aside0.mk (blk_kept (by exact zk0 BK411) hkp (fun hs_ => (fun e_ => (Kd.R_ne HO480.out BK411.out (by decide)) e_) hs_))
               have n12_ := Aside0.mk (Kd.R_mono (ok' := fun k_ => True) (Kd.R_keptB (HO430.out) hkp (fun k_ hk_ hs_ => (hk_.2) hs_)) (fun k_ hk_ => trivial))
               have n13_ := Aside0.mk (blk_kept (by exact zk0 BK432) hkp (fun hs_ => (fun e_ => (Kd.R_ne HO480.out BK432.out (by decide)) e_) hs_))
               have n14_ := Aside0.mk (Kd.R_mono (ok' := fun k_ => True) (Kd.R_keptB (HO440.out) hkp (fun k_ hk_ hs_ => (hk_.2) hs_)) (fun k_ hk_ => trivial))
               have n15_ := Aside0.mk (Kd.R_mono (ok' := fun k_ => True) (Kd.R_keptB (HO449.out) hkp (fun k_ hk_ hs_ => (hk_.2) hs_)) (fun k_ hk_ => trivial))
               have n16_ := Aside0.mk (Kd.R_mono (ok' := fun k_ => True) (Kd.R_keptB (HO458.out) hkp (fun k_ hk_ hs_ => (hk_.2) hs_)) (fun k_ hk_ => trivial))
               have n17_ := Aside0.mk (Kd.R_mono (ok' := fun k_ => True) (Kd.R_keptB (HO467.out) hkp (fun k_ hk_ hs_ => (hk_.2) hs_)) (fun k_ hk_ => trivial))
               have n18_ := Aside0.mk (Kd.R_mono (ok' := fun k_ => True) (Kd.R_keptB (HO476.out) hkp (fun k_ hk_ hs_ => (hk_.2) hs_)) (fun k_ hk_ => trivial))
               have n19_ := Aside0.mk (Kd.R_mono (ok' := fun k_ => True) ho0 (fun k_ hk_ => trivial))
               have n20_ := Aside0.mk (hb)
               clear HO374
               clear BK376
               clear HO381
               clear BK383
               clear HO388
               clear BK390
               clear HO395
               clear BK397
               clear HO402
               clear BK404
               clear HO409
               clear BK411
               clear HO430
               clear BK432
               clear HO440
               clear HO449
               clear HO458
               clear HO467
               clear HO476
               clear HB
               clear HO480
               have HO374 := n0_
               have BK376 := n1_
               have HO381 := n2_
               have BK383 := n3_
               have HO388 := n4_
               have BK390 := n5_
               have HO395 := n6_
               have BK397 := n7_
               have HO402 := n8_
               have BK404 := n9_
               have HO409 := n10_
               have BK411 := n11_
               have HO430 := n12_
               have BK432 := n13_
               have HO440 := n14_
               have HO449 := n15_
               have HO458 := n16_
               have HO467 := n17_
               have HO476 := n18_
               have HO485 := n19_
               have HB := n20_
               clear n0_ n1_ n2_ n3_ n4_ n5_ n6_ n7_ n8_ n9_ n10_ n11_ n12_ n13_ n14_ n15_ n16_ n17_ n18_ n19_ n20_
               (try clear hb)
               (try clear hkp)
               (try clear ho0)
               obtain ⟨Ao172, co172, eo172⟩ := Kd.R_slice HO485.out
               (first | subst eo172 | (injection eo172 with f1_ f2_ f3_; have f4_ := f1_.symm; have f5_ := f3_.symm; clear f1_ f2_ f3_; subst f4_; subst f5_))
               refine hK.out _ _ ⟨(blk_cell BK376.out 0).trans rfl, (blk_cell BK376.out 1).trans rfl, (blk_cell BK376.out 2).trans rfl, (blk_cell BK383.out 0).trans rfl, (blk_cell BK383.out 1).trans rfl, (blk_cell BK383.out 2).trans rfl, (blk_cell BK390.out 0).trans rfl, (blk_cell BK390.out 1).trans rfl, (blk_cell BK390.out 2).trans rfl, (blk_cell BK397.out 0).trans rfl, (blk_cell BK397.out 1).trans rfl, (blk_cell BK397.out 2).trans rfl, (blk_cell BK404.out 0).trans rfl, (blk_cell BK404.out 1).trans rfl, (blk_cell BK404.out 2).trans rfl, (blk_cell BK411.out 0).trans rfl, (blk_cell BK411.out 1).trans rfl, (blk_cell BK411.out 2).trans rfl⟩ (fun hHeld => ?_)
               clear hK K
               refine norm_ (a' := ?_) ?_ ?_
               rotate_left
               ·show Act.put _ (some 140) _ = _
                simp only [Act.put, sA, sB, sC, i64_w, i32_w]
                rfl
               refine one_ (i := 62) (N := some 141) (bs 81 9223372036854775807) rfl rfl (one_of HT_.out (by kernel_rfl)) (by decide) (fun K hK => ?_)
               refine goes_ Try.func11 (by kernel_rfl) rfl #[.agg #[.int .i64 t405, .int .i64 t406, .slice Ao104 t407.length co104], .agg #[.int .i64 t481, .int .i64 t482, .slice Ao172 t483.length co172]] (by rfl) rfl rfl (by (try simp only [List.map_toArray, List.map_cons, List.map_nil]); first | done | rfl | (simp only [List.length_drop, List.length_take]; rfl)) ?_
               with_reducible refine (imageeditorlaw24_same.calls k t405 t406 _ _ t407 t481 t482 _ _ t483 true _ ?side1 ?side2 ?side3 ?side4 A33.out).mono ?_
               (case side1 => repeat (first | exact (Kd.R_reads' HO409.out).2.2 | (with_reducible refine Kd.C_alloc ?_ _) | (with_reducible refine Kd.C_drewN ?_ _) | (with_reducible refine Kd.C_drew ?_)))
               (case side2 => exact (Kd.R_reads' HO409.out).2.1)
               (case side3 => repeat (first | exact (Kd.R_reads' HO485.out).2.2 | (with_reducible refine Kd.C_alloc ?_ _) | (with_reducible refine Kd.C_drewN ?_ _) | (with_reducible refine Kd.C_drew ?_)))
               (case side4 => exact (Kd.R_reads' HO485.out).2.1)
               rintro e w173 ⟨rfl, hb⟩
               refine ⟨_, rfl, ?_⟩
               replace HO374 := zr HO374 hb
               replace HO381 := zr HO381 hb
               replace HO388 := zr HO388 hb
               replace HO395 := zr HO395 hb
               replace HO402 := zr HO402 hb
               replace HO409 := zr HO409 hb
               replace HO430 := zr HO430 hb
               replace HO440 := zr HO440 hb
               replace HO449 := zr HO449 hb
               replace HO458 := zr HO458 hb
               replace HO467 := zr HO467 hb
               replace HO476 := zr HO476 hb
               replace HO485 := zr HO485 hb
               replace BK376 := zk BK376 hb
               replace BK383 := zk BK383 hb
               replace BK390 := zk BK390 hb
               replace BK397 := zk BK397 hb
               replace BK404 := zk BK404 hb
               replace BK411 := zk BK411 hb
               replace BK432 := zk BK432 hb
               replace HB := zb HB hb
               (try clear hb)
               (try clear hb2)
               (try clear hk)
               (try clear hi)
               refine hK.out _ _ ⟨(blk_cell BK376.out 0).trans rfl, (blk_cell BK376.out 1).trans rfl, (blk_cell BK376.out 2).trans rfl, (blk_cell BK383.out 0).trans rfl, (blk_cell BK383.out 1).trans rfl, (blk_cell BK383.out 2).trans rfl, (blk_cell BK390.out 0).trans rfl, (blk_cell BK390.out 1).trans rfl, (blk_cell BK390.out 2).trans rfl, (blk_cell BK397.out 0).trans rfl, (blk_cell BK397.out 1).trans rfl, (blk_cell BK397.out 2).trans rfl, (blk_cell BK404.out 0).trans rfl, (blk_cell BK404.out 1).trans rfl, (blk_cell BK404.out 2).trans rfl, (blk_cell BK411.out 0).trans rfl, (blk_cell BK411.out 1).trans rfl, (blk_cell BK411.out 2).trans rfl⟩ (fun hHeld => ?_)
               clear hK K
               refine norm_ (a' := ?_) ?_ ?_
               rotate_left
               ·show Act.put _ (some 141) _ = _
                simp only [Act.put, sA, sB, sC, i64_w, i32_w]
                rfl
               refine pure_ (i := 63) (N := some 142) (v := ?_) (a' := ?_) (bs 81 18446744073709551615) rfl rfl (any_of HT_.out (by kernel_rfl)) (fun _ _ _ h => h) (Or.inl ⟨by rfl, ?_⟩) ?_ ?_
               rotate_left
               ·intro w'
                go_simp
                with_reducible rfl
               rotate_left
               ·simp only [Act.put, sA, sB, sC, i64_w, i32_w]
                rfl
               refine pure_ (i := 64) (N := some 143) (v := ?_) (a' := ?_) (bs 81 36893488147419103231) rfl rfl (any_of HT_.out (by kernel_rfl)) (fun _ _ _ h => h) (Or.inl ⟨by rfl, ?_⟩) ?_ ?_
               rotate_left
               ·intro w'
                go_simp
                with_reducible rfl
               rotate_left
               ·simp only [Act.put, sA, sB, sC, i64_w, i32_w]
                rfl
               refine pure_ (i := 65) (N := some 144) (v := ?_) (a' := ?_) (bs 81 73786976294838206463) rfl rfl (any_of HT_.out (by kernel_rfl)) (fun _ _ _ h => h) (Or.inl ⟨by rfl, ?_⟩) ?_ ?_
               rotate_left
               ·intro w'
                go_simp
                with_reducible rfl
               rotate_left
               ·simp only [Act.put, sA, sB, sC, i64_w, i32_w]
                rfl
               refine pure_ (i := 66) (N := some 145) (v := ?_) (a' := ?_) (bs 81 147573952589676412927) rfl rfl (any_of HT_.out (by kernel_rfl)) (fun _ _ _ h => h) (Or.inl ⟨by rfl, ?_⟩) ?_ ?_
               rotate_left
               ·intro w'
                go_simp
                with_reducible rfl
               rotate_left
               ·simp only [Act.put, sA, sB, sC, i64_w, i32_w]
                rfl
               refine pure_ (i := 67) (N := some 146) (v := ?_) (a' := ?_) (bs 81 295147905179352825855) rfl rfl (any_of HT_.out (by kernel_rfl)) (fun _ _ _ h => h) (Or.inl ⟨by rfl, ?_⟩) ?_ ?_
               rotate_left
               ·intro w'
                go_simp
                with_reducible rfl
               rotate_left
               ·simp only [Act.put, sA, sB, sC, i64_w, i32_w]
                rfl
               refine pure_ (i := 68) (N := some 147) (v := ?_) (a' := ?_) (bs 81 590295810358705651711) rfl rfl (any_of HT_.out (by kernel_rfl)) (fun _ _ _ h => h) (Or.inl ⟨by rfl, ?_⟩) ?_ ?_
               rotate_left
               ·intro w'
                go_simp
                with_reducible rfl
               rotate_left
               ·simp only [Act.put, sA, sB, sC, i64_w, i32_w]
                rfl
               refine pure_ (i := 69) (N := some 148) (v := ?_) (a' := ?_) (bs 81 1180591620717411303423) rfl rfl (any_of HT_.out (by kernel_rfl)) (fun _ _ _ h => h) (Or.inl ⟨by rfl, ?_⟩) ?_ ?_
               rotate_left
               ·intro w'
                go_simp
                with_reducible rfl
               rotate_left
               ·simp only [Act.put, sA, sB, sC, i64_w, i32_w]
                rfl
               refine pure_ (i := 70) (N := some 149) (v := ?_) (a' := ?_) (bs 81 2361183241434822606847) rfl rfl (any_of HT_.out (by kernel_rfl)) (fun _ _ _ h => h) (Or.inl ⟨by rfl, ?_⟩) ?_ ?_
               rotate_left
               ·intro w'
                go_simp
                with_reducible rfl
               rotate_left
               ·simp only [Act.put, sA, sB, sC, i64_w, i32_w]
                rfl
               refine pure_ (i := 71) (N := some 150) (v := ?_) (a' := ?_) (bs 81 4722366482869645213695) rfl rfl (any_of HT_.out (by kernel_rfl)) (fun _ _ _ h => h) (Or.inl ⟨by rfl, ?_⟩) ?_ ?_
               rotate_left
               ·intro w'
                go_simp
                with_reducible rfl
               rotate_left
               ·simp only [Act.put, sA, sB, sC, i64_w, i32_w]
                rfl
               refine pure_ (i := 72) (N := some 151) (v := ?_) (a' := ?_) (bs 81 9444732965739290427391) rfl rfl (any_of HT_.out (by kernel_rfl)) (fun _ _ _ h => h) (Or.inl ⟨by rfl, ?_⟩) ?_ ?_
               rotate_left
               ·intro w'
                go_simp
                with_reducible rfl
               rotate_left
               ·simp only [Act.put, sA, sB, sC, i64_w, i32_w]
                rfl
               refine pure_ (i := 73) (N := some 152) (v := ?_) (a' := ?_) (bs 81 18889465931478580854783) rfl rfl (any_of HT_.out (by kernel_rfl)) (fun _ _ _ h => h) (Or.inl ⟨by rfl, ?_⟩) ?_ ?_
               rotate_left
               ·intro w'
                go_simp
                with_reducible rfl
               rotate_left
               ·simp only [Act.put, sA, sB, sC, i64_w, i32_w]
                rfl
               refine pure_ (i := 74) (N := some 153) (v := ?_) (a' := ?_) (bs 81 37778931862957161709567) rfl rfl (any_of HT_.out (by kernel_rfl)) (fun _ _ _ h => h) (Or.inl ⟨by rfl, ?_⟩) ?_ ?_
               rotate_left
               ·intro w'
                go_simp
                with_reducible rfl
               rotate_left
               ·simp only [Act.put, sA, sB, sC, i64_w, i32_w]
                rfl
               refine pure_ (i := 75) (N := some 154) (v := ?_) (a' := ?_) (bs 81 75557863725914323419135) rfl rfl (any_of HT_.out (by kernel_rfl)) (fun _ _ _ h => h) (Or.inl ⟨by rfl, ?_⟩) ?_ ?_
               rotate_left
               ·intro w'
                go_simp
                with_reducible rfl
               rotate_left
               ·simp only [Act.put, sA, sB, sC, i64_w, i32_w]
                rfl
               refine pure_ (i := 76) (N := some 155) (v := ?_) (a' := ?_) (bs 81 151115727451828646838271) rfl rfl (any_of HT_.out (by kernel_rfl)) (fun _ _ _ h => h) (Or.inl ⟨by rfl, ?_⟩) ?_ ?_
               rotate_left
               ·intro w'
                go_simp
                with_reducible rfl
               rotate_left
               ·simp only [Act.put, sA, sB, sC, i64_w, i32_w]
                rfl
               refine pure_ (i := 77) (N := some 156) (v := ?_) (a' := ?_) (bs 81 302231454903657293676543) rfl rfl (any_of HT_.out (by kernel_rfl)) (fun _ _ _ h => h) (Or.inl ⟨by rfl, ?_⟩) ?_ ?_
               rotate_left
               ·intro w'
                go_simp
                with_reducible rfl
               rotate_left
               ·simp only [Act.put, sA, sB, sC, i64_w, i32_w]
                rfl
               refine pure_ (i := 78) (N := some 157) (v := ?_) (a' := ?_) (bs 81 604462909807314587353087) rfl rfl (any_of HT_.out (by kernel_rfl)) (fun _ _ _ h => h) (Or.inl ⟨by rfl, ?_⟩) ?_ ?_
               rotate_left
               ·intro w'
                go_simp
                with_reducible rfl
               rotate_left
               ·simp only [Act.put, sA, sB, sC, i64_w, i32_w]
                rfl
               refine pure_ (i := 79) (N := some 158) (v := ?_) (a' := ?_) (bs 81 1208925819614629174706175) rfl rfl (any_of HT_.out (by kernel_rfl)) (fun _ _ _ h => h) (Or.inl ⟨by rfl, ?_⟩) ?_ ?_
               rotate_left
               ·intro w'
                go_simp
                with_reducible rfl
               rotate_left
               ·simp only [Act.put, sA, sB, sC, i64_w, i32_w]
                rfl
               refine pure_ (i := 80) (N := some 0) (v := ?_) (a' := ?_) (bs 81 2417851639229258349412351) rfl rfl (any_of HT_.out (by kernel_rfl)) (fun _ _ _ h => h) (Or.inl ⟨by rfl, ?_⟩) ?_ ?_
               rotate_left
               ·intro w'
                go_simp
                with_reducible rfl
               rotate_left
               ·simp only [Act.put, sA, sB, sC, i64_w, i32_w]
                rfl
               refine done_ (done_of HT_.out (by kernel_rfl)) ?_
               try go_wp2
               go_ret
               exact ⟨by first | rfl | (simp [errW_none, errW_some] <;> rfl) | (simp [*, errW_none, errW_some] <;> rfl), by exact zb0 HB⟩
              ·rw [if_neg c37] at H
               have c37b0 : (t424 == 2) = false := beq_eq_false_iff_ne.mpr c37
               have c37b1 : (t424 != 2) = true := bne_iff_ne.mpr c37
               exact absurd HT.out (by rw [← Option.some.inj H]; decide)
             ·rw [if_neg c36] at H
              have c36b0 : (t417 == 24) = false := beq_eq_false_iff_ne.mpr c36
              have c36b1 : (t417 != 24) = true := bne_iff_ne.mpr c36
              exact absurd HT.out (by rw [← Option.some.inj H]; decide)
            ·rw [if_neg c35] at H
             have c35b0 : (t410 == 0) = false := beq_eq_false_iff_ne.mpr c35
             have c35b1 : (t410 != 0) = true := bne_iff_ne.mpr c35
             exact absurd HT.out (by rw [← Option.some.inj H]; decide)
           ·replace c34 := Bool.eq_false_iff.mpr c34
            subst c34
            have H1 : (some false) = some r := by rw [if_neg (show ¬ (false = true) by decide)] at H; exact H
            clear H
            have H := H1
            clear H1
            exact absurd HT.out (by rw [← Option.some.inj H]; decide)
          ·rw [if_neg c31] at H
           have c31b0 : (t403 == 0) = false := beq_eq_false_iff_ne.mpr c31
           have c31b1 : (t403 != 0) = true := bne_iff_ne.mpr c31
           exact absurd HT.out (by rw [← Option.some.inj H]; decide)
         ·replace c30 := Bool.eq_false_iff.mpr c30
          subst c30
          have H1 : (some false) = some r := by rw [if_neg (show ¬ (false = true) by decide)] at H; exact H
          clear H
          have H := H1
          clear H1
          exact absurd HT.out (by rw [← Option.some.inj H]; decide)
        ·rw [if_neg c27] at H
         have c27b0 : (t396 == 0) = false := beq_eq_false_iff_ne.mpr c27
         have c27b1 : (t396 != 0) = true := bne_iff_ne.mpr c27
         exact absurd HT.out (by rw [← Option.some.inj H]; decide)
       ·replace c26 := Bool.eq_false_iff.mpr c26
        subst c26
        have H1 : (some false) = some r := by rw [if_neg (show ¬ (false = true) by decide)] at H; exact H
        clear H
        have H := H1
        clear H1
        exact absurd HT.out (by rw [← Option.some.inj H]; decide)
      ·rw [if_neg c23] at H
       have c23b0 : (t389 == 0) = false := beq_eq_false_iff_ne.mpr c23
       have c23b1 : (t389 != 0) = true := bne_iff_ne.mpr c23
       exact absurd HT.out (by rw [← Option.some.inj H]; decide)
     ·replace c22 := Bool.eq_false_iff.mpr c22
      subst c22
      have H1 : (some false) = some r := by rw [if_neg (show ¬ (false = true) by decide)] at H; exact H
      clear H
      have H := H1
      clear H1
      exact absurd HT.out (by rw [← Option.some.inj H]; decide)
    ·rw [if_neg c19] at H
     have c19b0 : (t382 == 0) = false := beq_eq_false_iff_ne.mpr c19
     have c19b1 : (t382 != 0) = true := bne_iff_ne.mpr c19
     exact absurd HT.out (by rw [← Option.some.inj H]; decide)
   ·replace c18 := Bool.eq_false_iff.mpr c18
    subst c18
    have H1 : (some false) = some r := by rw [if_neg (show ¬ (false = true) by decide)] at H; exact H
    clear H
    have H := H1
    clear H1
    exact absurd HT.out (by rw [← Option.some.inj H]; decide)
  ·rw [if_neg c15] at H
   have c15b0 : (t375 == 0) = false := beq_eq_false_iff_ne.mpr c15
   have c15b1 : (t375 != 0) = true := bne_iff_ne.mpr c15
   exact absurd HT.out (by rw [← Option.some.inj H]; decide)
 ·replace c14 := Bool.eq_false_iff.mpr c14
  subst c14
  have H1 : (some false) = some r := by rw [if_neg (show ¬ (false = true) by decide)] at H; exact H
  clear H
  have H := H1
  clear H1
  exact absurd HT.out (by rw [← Option.some.inj H]; decide)
set_option maxRecDepth 100000 in
theorem imageeditorlaw24_awake.known : imageeditorlaw24_awake.f 300 = some true := by decide +kernel
theorem imageeditorlaw24_awake.more (k : Nat) (r : Bool) (h : imageeditorlaw24_awake.f k = some r) : ∀ m, imageeditorlaw24_awake.f (k + m) = some r
 | 0 => h
 | m + 1 => imageeditorlaw24_awake.mono (k + m) r (imageeditorlaw24_awake.more k r h m)
theorem imageeditorlaw24_awake.det (k : Nat) (r : Bool) (h : imageeditorlaw24_awake.f k = some r) : r = true := by
 have h1 := imageeditorlaw24_awake.more k r h 300
 have h2 := imageeditorlaw24_awake.more 300 true imageeditorlaw24_awake.known k
 rw [Nat.add_comm] at h1
 exact Option.some.inj (h1.symm.trans h2)
theorem imageeditorlaw24_awake.calls (k : Nat) (r : Bool) (w : World) (h : imageeditorlaw24_awake.f k = some r) :
  Calls Try.prog 12 #[] w fun e w' => e = .returned (.bool r) ∧ Below w.heap.size w w' :=
 imageeditorlaw24_awake.callsT k r w (imageeditorlaw24_awake.det k r h) h

end Go.Proofs.Ytmmncannibnklaa.G
