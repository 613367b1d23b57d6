/- Contracts of functions of the program, each as it is called: what it computes (.f), that it computes no less with more rounds (.mono), and that a call returns just that (.calls). No conditions but those that each contract names. Written by a program of this session (wip/gx.py over the kit's print). -/
import Derived.Test.YtnfbabmceddciaaG0
import Derived.Test.YtnfbabmceddciaaG1
import Derived.Test.YtnfbabmceddciaaG8
namespace Go.Proofs.Ytnfbabmceddciaa.G
open Go.RowKit Go.Proofs.YtnfbabmceddciaaW.PrintWords Go.Proofs.YtnfbabmceddciaaW.PrintLast Go.Proofs.YtnfbabmceddciaaW.PrintMore
attribute [local go_sem] max2_int min2_int max_two min_two max_three min_three max_four min_four max_five min_five   -- for this text's walks alone
set_option linter.unusedVariables false
set_option linter.unusedSimpArgs false


attribute [local go_sem high] eqA48
/-! ### pixel_Valid: function 58 -/
def pixel_Valid.f (a0_0 : Int) (a0_1 : Int) (a0_2 : Int) (a0_3 : Int) : Option (Bool) := (pixel_Limit.f a0_0 a0_1 a0_2 a0_3).bind fun E1 => (some (a0_0 == E1.1 && (a0_1 == E1.2.1 && (a0_2 == E1.2.2.1 && (a0_3 == E1.2.2.2)))))
set_option maxHeartbeats 8000000 in
set_option maxRecDepth 100000 in
theorem pixel_Valid.calls (a0_0 : Int) (a0_1 : Int) (a0_2 : Int) (a0_3 : Int) (r : Bool) (w : World) (h : pixel_Valid.f a0_0 a0_1 a0_2 a0_3 = some r) :
  Calls Try.prog 58 #[.agg #[.int .i64 a0_0, .int .i64 a0_1, .int .i64 a0_2, .int .i64 a0_3]] w fun e w' => e = .returned (.bool r) ∧ Below w.heap.size w w' := by
 have hu48 := Try.underlying48
 have HB := Aside0.mk (Below.refl w.heap.size w)
 have H : ((pixel_Limit.f a0_0 a0_1 a0_2 a0_3).bind fun E1 => (some (a0_0 == E1.1 && (a0_1 == E1.2.1 && (a0_2 == E1.2.2.1 && (a0_3 == E1.2.2.2)))))) = some r := h
 clear h
 replace H := Option.bind_eq_some_iff.mp H
 obtain ⟨⟨t260, t261, t262, t263⟩, A20, H⟩ := H
 try dsimp only at H
 have A2 := Aside0.mk A20
 clear A20
 obtain rfl := Option.some.inj H
 go_enter Try.func58, Try.ntmps58
 try go_wp2_with (first | ((with_reducible refine gate_dst (N := 1) rfl ?_); refine box_event ?hg (N := 1) ?hd (cs := #[.int .i64 a0_0, .int .i64 a0_1, .int .i64 a0_2, .int .i64 a0_3]) (t := 48) ?hr ?_; (case hd => rfl); (case hg => rfl); (case hr => first | (go_simp; done) | (go_simp; rfl)); intro E2 hg w3 hbox hb; have E3 := zg HB hg; have E4 := zg HB hg; have n0_ := Aside0.mk (hbox); replace HB := zb HB hb; have E0 := n0_; clear n0_; clear hb hbox hg))
 replace E0 := zkd E0
 replace HB := zbd HB
 refine start_ (n := 5) (S := fun w' => w'.cell? ⟨E2, 0, none⟩ = some (.int .i64 a0_0) ∧ w'.cell? ⟨E2, 1, none⟩ = some (.int .i64 a0_1) ∧ w'.cell? ⟨E2, 2, none⟩ = some (.int .i64 a0_2) ∧ w'.cell? ⟨E2, 3, none⟩ = some (.int .i64 a0_3)) (ds := []) #[false, false, false, false, false] (by kernel_rfl) rfl rfl ⟨(blk_cell E0.out 0).trans rfl, (blk_cell E0.out 1).trans rfl, (blk_cell E0.out 2).trans rfl, (blk_cell E0.out 3).trans rfl⟩ (fun hHeld => ?_)
 generalize w3.drew = w4 at E0 HB hHeld ⊢
 refine take_ (i := 0) (N := some 3) (v := ?_) (a' := ?_) #[true, false, false, false, false] rfl rfl (by kernel_rfl) (fun _ _ _ h => h) (Or.inl ⟨by rfl, ?_⟩) hHeld ?_ ?_
 rotate_left
 ·rintro w' ⟨s0, s1, s2, s3⟩
  go_simp
  with_reducible rfl
 rotate_left
 ·simp only [Act.put, sA, sB, sC, i64_w, i32_w]
  rfl
 refine take_ (i := 1) (N := some 4) (v := ?_) (a' := ?_) #[true, true, false, false, false] rfl rfl (by kernel_rfl) (fun _ _ _ h => h) (Or.inl ⟨by rfl, ?_⟩) hHeld ?_ ?_
 rotate_left
 ·rintro w' ⟨s0, s1, s2, s3⟩
  go_simp
  with_reducible rfl
 rotate_left
 ·simp only [Act.put, sA, sB, sC, i64_w, i32_w]
  rfl
 refine one_ (i := 2) (N := some 5) #[true, true, true, false, false] rfl rfl (by kernel_rfl) (by decide) (fun K hK => ?_)
 refine goes_ Try.func87 (by kernel_rfl) rfl #[.agg #[.int .i64 a0_0, .int .i64 a0_1, .int .i64 a0_2, .int .i64 a0_3]] (by rfl) rfl rfl (by (try simp only [List.map_toArray, List.map_cons, List.map_nil]); first | done | rfl | (simp only [List.length_drop, List.length_take]; rfl)) ?_
 with_reducible refine (pixel_Limit.calls a0_0 a0_1 a0_2 a0_3 t260 t261 t262 t263 _ A2.out).mono ?_
 rintro e w5 ⟨rfl, hb⟩
 refine ⟨_, rfl, ?_⟩
 replace E0 := zk E0 hb
 replace HB := zb HB hb
 (try clear hb)
 (try clear hb2)
 (try clear hk)
 (try clear hi)
 refine hK.out _ _ ⟨(blk_cell E0.out 0).trans rfl, (blk_cell E0.out 1).trans rfl, (blk_cell E0.out 2).trans rfl, (blk_cell E0.out 3).trans rfl⟩ (fun hHeld => ?_)
 clear hK K
 refine norm_ (a' := ?_) ?_ ?_
 rotate_left
 ·show Act.put _ (some 5) _ = _
  simp only [Act.put, sA, sB, sC, i64_w, i32_w]
  rfl
 refine pure_ (i := 3) (N := some 6) (v := ?_) (a' := ?_) #[true, true, true, true, false] rfl rfl (by kernel_rfl) (fun _ _ _ h => h) (Or.inl ⟨by rfl, ?_⟩) ?_ ?_
 rotate_left
 ·intro w'
  go_simp
  with_reducible rfl
 rotate_left
 ·simp only [Act.put, sA, sB, sC, i64_w, i32_w]
  rfl
 refine pure_ (i := 4) (N := some 2) (v := ?_) (a' := ?_) #[true, true, true, true, true] rfl rfl (by kernel_rfl) (fun _ _ _ h => h) (Or.inl ⟨by rfl, ?_⟩) ?_ ?_
 rotate_left
 ·intro w'
  go_simp
  with_reducible rfl
 rotate_left
 ·simp only [Act.put, sA, sB, sC, i64_w, i32_w]
  rfl
 refine done_ (by kernel_rfl) ?_
 try go_wp2
 go_ret
 exact ⟨by first | rfl | (simp [errW_none, errW_some] <;> rfl) | (simp [*, errW_none, errW_some] <;> rfl), by exact zb0 HB⟩

/-! ### raster_Check: function 22 -/
mutual
def raster_Check.j0 : Nat → Bool → Int → Int → List (S48) → Option (Int)
 | 0, _, _, _, _ => none
 | k + 1, x21, Y6, Y7, G2 => if x21 = true then (some 15) else (raster_Check.l0 k G2 (G2.length : Int) 0)
def raster_Check.l0 : Nat → List (S48) → Int → Int → Option (Int)
 | 0, _, _, _ => none
 | k + 1, x23, x24, x25 => if x25 < x24 then (if 0 ≤ x25 then (if x25 < (x23.length : Int) then ((pixel_Valid.f ((rd_T48 x23 x25).f0) ((rd_T48 x23 x25).f1) ((rd_T48 x23 x25).f2) ((rd_T48 x23 x25).f3)).bind fun t268 => (if t268 = true then (raster_Check.l0 k x23 x24 (wrap64 (x25 + 1))) else (some 2))) else (none)) else (none)) else (some 0)
end
def raster_Check.f (k : Nat) (a0_0 : Int) (a0_1 : Int) (l0_2 : List (S48)) : Option (Int) := (raster_sides.f a0_0 a0_1).bind fun t265 => (if t265 = 0 then (raster_Check.j0 k ((l0_2.length : Int) != (wrap64 (a0_0 * a0_1))) a0_0 a0_1 l0_2) else (raster_Check.j0 k true a0_0 a0_1 l0_2))
theorem raster_Check.mono_l : ∀ k, (∀ y0 y1 y2 y3, LeO (raster_Check.j0 k y0 y1 y2 y3) (raster_Check.j0 (k + 1) y0 y1 y2 y3)) ∧ (∀ y0 y1 y2, LeO (raster_Check.l0 k y0 y1 y2) (raster_Check.l0 (k + 1) y0 y1 y2))
 | 0 => ⟨fun _ _ _ _ r h => by simp [raster_Check.j0] at h, fun _ _ _ r h => by simp [raster_Check.l0] at h⟩
 | k + 1 => by
  obtain ⟨ih0, ih1⟩ := raster_Check.mono_l k
  refine ⟨?_, ?_⟩
  ·intro y0 y1 y2 y3
   unfold raster_Check.j0
   repeat' first
   | (with_reducible exact ih0 _ _ _ _)
   | (with_reducible exact ih1 _ _ _)
   | (with_reducible exact LeO.refl _)
   | (with_reducible exact LeO.none _)
   | (with_reducible refine LeO.ite ?_ ?_)
   | (with_reducible refine LeO.bind ?_ (fun _ => ?_))
   | exact ih0 _ _ _ _
   | exact ih1 _ _ _
   | exact LeO.none _
   | refine LeO.ite ?_ ?_
   | refine LeO.bind ?_ (fun _ => ?_)
  ·intro y0 y1 y2
   unfold raster_Check.l0
   repeat' first
   | (with_reducible exact ih0 _ _ _ _)
   | (with_reducible exact ih1 _ _ _)
   | (with_reducible exact LeO.refl _)
   | (with_reducible exact LeO.none _)
   | (with_reducible refine LeO.ite ?_ ?_)
   | (with_reducible refine LeO.bind ?_ (fun _ => ?_))
   | exact ih0 _ _ _ _
   | exact ih1 _ _ _
   | exact LeO.none _
   | refine LeO.ite ?_ ?_
   | refine LeO.bind ?_ (fun _ => ?_)
theorem raster_Check.mono : ∀ a0 a1 a2 k, LeO (raster_Check.f k a0 a1 a2) (raster_Check.f (k + 1) a0 a1 a2) := by
 intro a0 a1 a2 k
 obtain ⟨ih0, ih1⟩ := raster_Check.mono_l k
 unfold raster_Check.f
 repeat' first
   | (with_reducible exact ih0 _ _ _ _)
   | (with_reducible exact ih1 _ _ _)
   | (with_reducible exact LeO.refl _)
   | (with_reducible exact LeO.none _)
   | (with_reducible refine LeO.ite ?_ ?_)
   | (with_reducible refine LeO.bind ?_ (fun _ => ?_))
   | exact ih0 _ _ _ _
   | exact ih1 _ _ _
   | exact LeO.none _
   | refine LeO.ite ?_ ?_
   | refine LeO.bind ?_ (fun _ => ?_)
set_option maxHeartbeats 8000000 in
set_option maxRecDepth 100000 in
theorem raster_Check.calls (k : Nat) (a0_0 : Int) (a0_1 : Int) (A0_2 : Option Addr) (c0_2 : Nat) (l0_2 : List (S48)) (r : Int) (w : World) (hr0_2 : Kd.C k48 w A0_2 l0_2.length l0_2) (hc0_2 : l0_2.length ≤ c0_2) (h : raster_Check.f k a0_0 a0_1 l0_2 = some r) :
  Calls Try.prog 22 #[.agg #[.int .i64 a0_0, .int .i64 a0_1, .slice A0_2 l0_2.length c0_2]] w fun e w' => e = .returned (.int .i64 r) ∧ Below w.heap.size w w' := by
 have hu40 := Try.underlying40
 have hu48 := Try.underlying48
 have G3 := Aside0.mk hr0_2
 have Y8 := Aside0.mk hc0_2
 clear hr0_2 hc0_2
 have HB := Aside0.mk (Below.refl w.heap.size w)
 have H : ((raster_sides.f a0_0 a0_1).bind fun t265 => (if t265 = 0 then (raster_Check.j0 k ((l0_2.length : Int) != (wrap64 (a0_0 * a0_1))) a0_0 a0_1 l0_2) else (raster_Check.j0 k true a0_0 a0_1 l0_2))) = some r := h
 clear h
 have HC2 := Aside0.mk H
 clear H
 go_enter Try.func22, Try.ntmps22
 go_upto_region 1 with (first | ((with_reducible refine gate_dst (N := 1) rfl ?_); (try (refine gate_guard (by rfl) ?_; dsimp only)); refine box_event ?hg (N := 1) ?hd (cs := #[.int .i64 a0_0, .int .i64 a0_1, .slice A0_2 l0_2.length c0_2]) (t := 40) ?hr ?_; (case hd => rfl); (case hg => rfl); (case hr => first | (go_simp; done) | (go_simp; rfl)); intro G4 hg w3 hbox hb; have Y9 := zg HB hg; have Z0 := zg HB hg; have n0_ := Aside0.mk (hbox); replace HB := zb HB hb; have E0 := n0_; clear n0_; clear hb hbox hg))
 (try simp only [Act.put, sA, sB, sC])
 go_cut [21] (fun v21 wc => ∃ (kq : Nat) (x21_1 : Bool), v21 = .bool x21_1 ∧ Aside0 (raster_Check.j0 kq x21_1 a0_0 a0_1 l0_2 = some r) ∧ Aside0 (kq ≤ k) ∧ Aside0 (wc.heap[G4]? = some (.cells #[.int .i64 a0_0, .int .i64 a0_1, (.slice A0_2 l0_2.length c0_2)] 40 (0, 0))) ∧ Aside0 (Below w.heap.size w wc))
 case first =>
  have H := HC2.out
  clear HC2
  replace H := Option.bind_eq_some_iff.mp H
  obtain ⟨t265, A40, H⟩ := H
  try dsimp only at H
  have A4 := Aside0.mk A40
  clear A40
  by_cases c5 : t265 = 0
  ·rw [if_pos c5] at H
   have E2 : (t265 == 0) = true := beq_iff_eq.mpr c5
   have E8 : (t265 != 0) = false := bne_eq_false_iff_eq.mpr c5
   clear c5
   (first | rw [E2] | (simp only [i64_w, i32_w]; rw [E2]) | skip)
   have H' := Aside0.mk H
   clear H
   obtain ⟨G5, G6, G7, G8, G9, V0⟩ := zq3 E0
   go_wp2_with (first | ((with_reducible refine gate_callee (f := 57) rfl ?_); refine goesL_ (some 9) rfl rfl Try.func57 (by kernel_rfl) rfl #[.int .i64 a0_0, .int .i64 a0_1] rfl (by (try simp only [List.map_toArray, List.map_cons, List.map_nil]); first | done | rfl | (simp only [List.length_drop, List.length_take]; rfl)) ?_; (with_reducible refine (raster_sides.calls a0_0 a0_1 t265 _ A4.out).mono ?_); rintro e w' ⟨rfl, ⟨nd, rfl⟩⟩; refine ⟨_, rfl, ?_⟩))
   go_meet
   case rel => exact ⟨_, (((l0_2.length : Int) != (wrap64 (a0_0 * a0_1)))), (by first | rfl | (simp; done) | (simp [*]; done)), H', ⟨by first | omega | exact Nat.le_refl _⟩, ⟨by exact zk0 E0⟩, ⟨by exact zb0 HB⟩⟩
  rw [if_neg c5] at H
  have E2 : (t265 == 0) = false := beq_eq_false_iff_ne.mpr c5
  have E8 : (t265 != 0) = true := bne_iff_ne.mpr c5
  (first | rw [E2] | (simp only [i64_w, i32_w]; rw [E2]) | skip)
  have H' := Aside0.mk H
  clear H
  obtain ⟨V1, V2, V3, V4, V5, V6⟩ := zq3 E0
  go_wp2_with (first | ((with_reducible refine gate_callee (f := 57) rfl ?_); refine goesL_ (some 9) rfl rfl Try.func57 (by kernel_rfl) rfl #[.int .i64 a0_0, .int .i64 a0_1] rfl (by (try simp only [List.map_toArray, List.map_cons, List.map_nil]); first | done | rfl | (simp only [List.length_drop, List.length_take]; rfl)) ?_; (with_reducible refine (raster_sides.calls a0_0 a0_1 t265 _ A4.out).mono ?_); rintro e w' ⟨rfl, ⟨nd, rfl⟩⟩; refine ⟨_, rfl, ?_⟩))
  go_meet
  case rel => exact ⟨_, (true), (by first | rfl | (simp; done) | (simp [*]; done)), H', ⟨by first | omega | exact Nat.le_refl _⟩, ⟨by exact zk0 E0⟩, ⟨by exact zb0 HB⟩⟩
 case rest =>
  clear HC2
  try clear c2
  try clear p2
  try clear q3
  try clear c5
  try clear E2
  try clear E8
  try clear p6
  try clear G5
  try clear G6
  try clear G7
  try clear V1
  try clear V2
  try clear V3
  try clear G8
  try clear G9
  try clear V0
  try clear V4
  try clear V5
  try clear V6
  obtain ⟨kq, x21_1, rfl, HA, HJ1, E0, HB⟩ := hcut
  cases kq with
  | zero => exact absurd HA.out (by simp [raster_Check.j0])
  | succ kj1 =>
   have H := HA.out
   clear HA
   simp only [raster_Check.j0] at H
   by_cases c8 : x21_1 = true
   ·subst c8
    rw [if_pos rfl] at H
    obtain rfl := Option.some.inj H
    go_wp2
    go_ret
    exact ⟨by first | rfl | (simp [errW_none, errW_some] <;> rfl) | (simp [*, errW_none, errW_some] <;> rfl), by exact zb0 HB⟩
   replace c8 := Bool.eq_false_iff.mpr c8
   subst c8
   rw [if_neg (show ¬ (false = true) by decide)] at H
   have H' := Aside0.mk H
   clear H
   obtain ⟨V7, V8, V9, Y0, Y1, Y2⟩ := zq3 E0
   go_wp2
   go_loopg [25] kj1 (fun kq v25 w' => ∃ (x25_2 : Int), v25 = .int .i64 x25_2 ∧ Aside0 (raster_Check.l0 kq l0_2 (l0_2.length : Int) x25_2 = some r) ∧ Aside0 (kq ≤ kj1) ∧ Aside0 (w'.heap[G4]? = some (.cells #[.int .i64 a0_0, .int .i64 a0_1, (.slice A0_2 l0_2.length c0_2)] 40 (0, 0))) ∧ Aside0 (Below w.heap.size w w'))
   case atStart => exact ⟨(0), (by first | rfl | (simp; done) | (simp [*]; done)), H', ⟨Nat.le_refl _⟩, ⟨by exact zk0 E0⟩, ⟨by exact zb0 HB⟩⟩
   case round =>
    clear H'
    try clear c2
    try clear p2
    try clear q3
    try clear c5
    try clear E2
    try clear E8
    try clear p6
    try clear c8
    try clear G5
    try clear G6
    try clear G7
    try clear V1
    try clear V2
    try clear V3
    try clear V7
    try clear V8
    try clear V9
    try clear G8
    try clear G9
    try clear V0
    try clear V4
    try clear V5
    try clear V6
    try clear Y0
    try clear Y1
    try clear Y2
    try clear p2
    try clear p6
    try clear q3
    obtain ⟨x25_2, rfl, HA, HK2, E0, HB⟩ := hrel
    cases gk with
    | zero => exact absurd HA.out (by simp [raster_Check.l0])
    | succ k2 =>
     have H := HA.out
     clear HA
     simp only [raster_Check.l0] at H
     by_cases c10 : x25_2 < (l0_2.length : Int)
     rotate_left
     ·rw [if_neg c10] at H
      have Y3 : decide (x25_2 < (l0_2.length : Int)) = false := decide_eq_false c10
      clear c10
      obtain rfl := Option.some.inj H
      go_wp2
      go_ret
      exact ⟨by first | rfl | (simp [errW_none, errW_some] <;> rfl) | (simp [*, errW_none, errW_some] <;> rfl), by exact zb0 HB⟩

     rw [if_pos c10] at H
     have Y3 : decide (x25_2 < (l0_2.length : Int)) = true := decide_eq_true c10
     clear c10
     by_cases c11 : 0 ≤ x25_2
     rotate_left
     ·rw [if_neg c11] at H
      exact absurd H (by simp)
     rw [if_pos c11] at H
     have Z1 : decide (0 ≤ x25_2) = true := decide_eq_true c11
     clear c11
     by_cases c12 : x25_2 < (l0_2.length : Int)
     rotate_left
     ·rw [if_neg c12] at H
      exact absurd H (by simp)
     rw [if_pos c12] at H
     have Z2 : decide (x25_2 < (l0_2.length : Int)) = true := decide_eq_true c12
     clear c12
     replace H := Option.bind_eq_some_iff.mp H
     obtain ⟨t268, A130, H⟩ := H
     try dsimp only at H
     have A13 := Aside0.mk A130
     clear A130
     by_cases c14 : t268 = true
     ·subst c14
      rw [if_pos rfl] at H
      have H' := Aside0.mk H
      clear H
      have p266 : 0 ≤ (x25_2 : Int) := of_decide_eq_true (by first | (with_reducible assumption) | assumption)
      have q266 : x25_2 < (l0_2.length : Int) := of_decide_eq_true (by first | (with_reducible assumption) | assumption)
      obtain ⟨Y4, e266, E3, E4, E5, E6⟩ := at_T48 G3.out x25_2 p266 q266
      cases e266
      replace E3 := (HB.out.cell (World.block_lt_of_cell? w _ E3)).trans E3
      replace E4 := (HB.out.cell (World.block_lt_of_cell? w _ E4)).trans E4
      replace E5 := (HB.out.cell (World.block_lt_of_cell? w _ E5)).trans E5
      replace E6 := (HB.out.cell (World.block_lt_of_cell? w _ E6)).trans E6
      replace p266 := eq_true p266
      replace q266 := eq_true q266
      go_wp2_with (first | ((with_reducible refine gate_dst (N := 4) rfl ?_); (try (refine gate_guard (by rfl) ?_; dsimp only)); refine box_event ?hg (N := 4) ?hd (cs := #[.int .i64 0, .int .i64 0, .int .i64 0, .int .i64 0]) (t := 48) ?hr ?_; (case hd => rfl); (case hg => rfl); (case hr => first | (go_simp; done) | (go_simp; rfl)); intro E9 hg w15 hbox hb; have Y5 := zg HB hg; have G0 := zg HB hg; have E7 := zn E0 hg; have G1 := zn' E0 hg; have n0_ := Aside0.mk (hbox); replace E0 := zk E0 hb; replace HB := zb HB hb; have E1 := n0_; clear n0_; clear hb hbox hg; have Z3 := G1.out; have Z4 := E7.out; obtain ⟨Z5, Z6, Z7, Z8, Z9, J0, J1, J2⟩ := zq4 E1) | ((with_reducible refine gate_callee (f := 58) rfl ?_); refine goesL_ (some 30) rfl rfl Try.func58 (by kernel_rfl) rfl #[.agg #[.int .i64 ((rd_T48 l0_2 x25_2).f0), .int .i64 ((rd_T48 l0_2 x25_2).f1), .int .i64 ((rd_T48 l0_2 x25_2).f2), .int .i64 ((rd_T48 l0_2 x25_2).f3)]] rfl (by (try simp only [List.map_toArray, List.map_cons, List.map_nil]); first | done | rfl | (simp only [List.length_drop, List.length_take]; rfl)) ?_; (with_reducible refine (pixel_Valid.calls ((rd_T48 l0_2 x25_2).f0) ((rd_T48 l0_2 x25_2).f1) ((rd_T48 l0_2 x25_2).f2) ((rd_T48 l0_2 x25_2).f3) true _ A13.out).mono ?_); rintro e w18 ⟨rfl, hb⟩; refine ⟨_, rfl, ?_⟩; have n0_ := Aside0.mk (blk_below (g := E9) (o := .cells #[.int .i64 ((rd_T48 l0_2 x25_2).f0), .int .i64 ((rd_T48 l0_2 x25_2).f1), .int .i64 ((rd_T48 l0_2 x25_2).f2), .int .i64 ((rd_T48 l0_2 x25_2).f3)] 48 (0, 0)) (by exact zp E1 rfl) hb); have n1_ := Aside0.mk (below_step (by exact zbo HB G0) hb); replace E0 := zfk E0 E7 hb; clear E1; clear HB; have E1 := n0_; have HB := n1_; clear n0_ n1_; (try clear hb)))
      go_roundg k2
      case measure => have := HJ1.out; have := HK2.out; omega
      case rel => exact ⟨(wrap64 (x25_2 + 1)), (by first | rfl | (simp; done) | (simp [*]; done)), H', ⟨by have := HJ1.out; have := HK2.out; omega⟩, ⟨by exact zk0 E0⟩, ⟨by exact zb0 HB⟩⟩
     replace c14 := Bool.eq_false_iff.mpr c14
     subst c14
     rw [if_neg (show ¬ (false = true) by decide)] at H
     obtain rfl := Option.some.inj H
     have p266 : 0 ≤ (x25_2 : Int) := of_decide_eq_true (by first | (with_reducible assumption) | assumption)
     have q266 : x25_2 < (l0_2.length : Int) := of_decide_eq_true (by first | (with_reducible assumption) | assumption)
     obtain ⟨Y4, e266, E3, E4, E5, E6⟩ := at_T48 G3.out x25_2 p266 q266
     cases e266
     replace E3 := (HB.out.cell (World.block_lt_of_cell? w _ E3)).trans E3
     replace E4 := (HB.out.cell (World.block_lt_of_cell? w _ E4)).trans E4
     replace E5 := (HB.out.cell (World.block_lt_of_cell? w _ E5)).trans E5
     replace E6 := (HB.out.cell (World.block_lt_of_cell? w _ E6)).trans E6
     replace p266 := eq_true p266
     replace q266 := eq_true q266
     go_wp2_with (first | ((with_reducible refine gate_dst (N := 4) rfl ?_); (try (refine gate_guard (by rfl) ?_; dsimp only)); refine box_event ?hg (N := 4) ?hd (cs := #[.int .i64 0, .int .i64 0, .int .i64 0, .int .i64 0]) (t := 48) ?hr ?_; (case hd => rfl); (case hg => rfl); (case hr => first | (go_simp; done) | (go_simp; rfl)); intro E9 hg w19 hbox hb; have Y5 := zg HB hg; have G0 := zg HB hg; have E7 := zn E0 hg; have G1 := zn' E0 hg; have n0_ := Aside0.mk (hbox); replace E0 := zk E0 hb; replace HB := zb HB hb; have E1 := n0_; clear n0_; clear hb hbox hg; have J3 := G1.out; have J4 := E7.out; obtain ⟨J5, J6, J7, J8, J9, L0, L1, L2⟩ := zq4 E1) | ((with_reducible refine gate_callee (f := 58) rfl ?_); refine goesL_ (some 30) rfl rfl Try.func58 (by kernel_rfl) rfl #[.agg #[.int .i64 ((rd_T48 l0_2 x25_2).f0), .int .i64 ((rd_T48 l0_2 x25_2).f1), .int .i64 ((rd_T48 l0_2 x25_2).f2), .int .i64 ((rd_T48 l0_2 x25_2).f3)]] rfl (by (try simp only [List.map_toArray, List.map_cons, List.map_nil]); first | done | rfl | (simp only [List.length_drop, List.length_take]; rfl)) ?_; (with_reducible refine (pixel_Valid.calls ((rd_T48 l0_2 x25_2).f0) ((rd_T48 l0_2 x25_2).f1) ((rd_T48 l0_2 x25_2).f2) ((rd_T48 l0_2 x25_2).f3) false _ A13.out).mono ?_); rintro e w22 ⟨rfl, hb⟩; refine ⟨_, rfl, ?_⟩; have n0_ := Aside0.mk (blk_below (g := E9) (o := .cells #[.int .i64 ((rd_T48 l0_2 x25_2).f0), .int .i64 ((rd_T48 l0_2 x25_2).f1), .int .i64 ((rd_T48 l0_2 x25_2).f2), .int .i64 ((rd_T48 l0_2 x25_2).f3)] 48 (0, 0)) (by exact zp E1 rfl) hb); have n1_ := Aside0.mk (below_step (by exact zbo HB G0) hb); replace E0 := zfk E0 E7 hb; clear E1; clear HB; have E1 := n0_; have HB := n1_; clear n0_ n1_; (try clear hb)))
     go_ret
     exact ⟨by first | rfl | (simp [errW_none, errW_some] <;> rfl) | (simp [*, errW_none, errW_some] <;> rfl), by exact zb0 HB⟩
/-! ### warp_covers_1: function 78 -/
def warp_covers_1.f (a0 : Int) (a1 : Int) (a2 : Int) (a3 : Int) : Option (Bool) := if a0 ≤ a2 then (some (decide (a0 > (wrap64 ((wrap64 ((wrap64 (a2 + a3)) - 1)) - a1))))) else (some false)
set_option maxHeartbeats 8000000 in
set_option maxRecDepth 100000 in
theorem warp_covers_1.calls (a0 : Int) (a1 : Int) (a2 : Int) (a3 : Int) (r : Bool) (w : World) (h : warp_covers_1.f a0 a1 a2 a3 = some r) :
  Calls Try.prog 78 #[.int .i64 a0, .int .i64 a1, .int .i64 a2, .int .i64 a3] w fun e w' => e = .returned (.bool r) ∧ Drawn0 w w' := by
 have H : (if a0 ≤ a2 then (some (decide (a0 > (wrap64 ((wrap64 ((wrap64 (a2 + a3)) - 1)) - a1))))) else (some false)) = some r := h
 clear h
 by_cases c5 : a0 ≤ a2
 ·rw [if_pos c5] at H
  have E0 : decide (a0 ≤ a2) = true := decide_eq_true c5
  clear c5
  obtain rfl := Option.some.inj H
  go_enter Try.func78, Try.ntmps78
  go_wp2
  go_ret
  exact ⟨by first | rfl | (simp; done) | (simp [*]; done), by repeat (first | exact Drawn0.refl _ | apply Drawn0.step)⟩
 rw [if_neg c5] at H
 have E0 : decide (a0 ≤ a2) = false := decide_eq_false c5
 clear c5
 obtain rfl := Option.some.inj H
 go_enter Try.func78, Try.ntmps78
 go_wp2
 go_ret
 exact ⟨by first | rfl | (simp; done) | (simp [*]; done), by repeat (first | exact Drawn0.refl _ | apply Drawn0.step)⟩

/-! ### warp_covers: function 47 -/
def warp_covers.f (a0_0 : Int) (a0_1 : Int) (l0_2 : List (S48)) (a1_0 : Int) (a1_1 : Int) (a2_0 : Int) (a2_1 : Int) (a2_2 : Int) (a2_3 : Int) : Option (Bool) := (warp_covers_1.f a1_0 a0_0 a2_0 a2_2).bind fun t272 => (if t272 = true then ((warp_covers_1.f a1_1 a0_1 a2_1 a2_3).bind fun t273 => (some t273)) else (some false))
set_option maxHeartbeats 8000000 in
set_option maxRecDepth 100000 in
theorem warp_covers.calls (a0_0 : Int) (a0_1 : Int) (A0_2 : Option Addr) (c0_2 : Nat) (l0_2 : List (S48)) (a1_0 : Int) (a1_1 : Int) (a2_0 : Int) (a2_1 : Int) (a2_2 : Int) (a2_3 : Int) (r : Bool) (w : World) (hr0_2 : Kd.C k48 w A0_2 l0_2.length l0_2) (hc0_2 : l0_2.length ≤ c0_2) (h : warp_covers.f a0_0 a0_1 l0_2 a1_0 a1_1 a2_0 a2_1 a2_2 a2_3 = some r) :
  Calls Try.prog 47 #[.agg #[.int .i64 a0_0, .int .i64 a0_1, .slice A0_2 l0_2.length c0_2], .agg #[.int .i64 a1_0, .int .i64 a1_1], .agg #[.int .i64 a2_0, .int .i64 a2_1, .int .i64 a2_2, .int .i64 a2_3]] w fun e w' => e = .returned (.bool r) ∧ Below w.heap.size w w' := by
 have hu40 := Try.underlying40
 have hu28 := Try.underlying28
 have hu34 := Try.underlying34
 have G8 := Aside0.mk hr0_2
 have G9 := Aside0.mk hc0_2
 clear hr0_2 hc0_2
 have HB := Aside0.mk (Below.refl w.heap.size w)
 have H : ((warp_covers_1.f a1_0 a0_0 a2_0 a2_2).bind fun t272 => (if t272 = true then ((warp_covers_1.f a1_1 a0_1 a2_1 a2_3).bind fun t273 => (some t273)) else (some false))) = some r := h
 clear h
 replace H := Option.bind_eq_some_iff.mp H
 obtain ⟨t272, A40, H⟩ := H
 try dsimp only at H
 have A4 := Aside0.mk A40
 clear A40
 by_cases c5 : t272 = true
 ·subst c5
  rw [if_pos rfl] at H
  replace H := Option.bind_eq_some_iff.mp H
  obtain ⟨t273, A60, H⟩ := H
  try dsimp only at H
  have A6 := Aside0.mk A60
  clear A60
  obtain rfl := Option.some.inj H
  go_enter Try.func47, Try.ntmps47
  go_wp2_with (first | ((with_reducible refine gate_dst (N := 3) rfl ?_); refine box_event ?hg (N := 3) ?hd (cs := #[.int .i64 a0_0, .int .i64 a0_1, .slice A0_2 l0_2.length c0_2]) (t := 40) ?hr ?_; (case hd => rfl); (case hg => rfl); (case hr => first | (go_simp; done) | (go_simp; rfl)); intro E3 hg w7 hbox hb; have E4 := zg HB hg; have E5 := zg HB hg; have n0_ := Aside0.mk (hbox); replace HB := zb HB hb; have E0 := n0_; clear n0_; clear hb hbox hg) | ((with_reducible refine gate_dst (N := 4) rfl ?_); refine box_event ?hg (N := 4) ?hd (cs := #[.int .i64 a1_0, .int .i64 a1_1]) (t := 28) ?hr ?_; (case hd => rfl); (case hg => rfl); (case hr => first | (go_simp; done) | (go_simp; rfl)); intro E6 hg w8 hbox hb; have E7 := zg HB hg; have E8 := zg HB hg; have E9 := zn E0 hg; have G0 := zn' E0 hg; have n0_ := Aside0.mk (hbox); replace E0 := zk E0 hb; replace HB := zb HB hb; have E1 := n0_; clear n0_; clear hb hbox hg) | ((with_reducible refine gate_dst (N := 5) rfl ?_); refine box_event ?hg (N := 5) ?hd (cs := #[.int .i64 a2_0, .int .i64 a2_1, .int .i64 a2_2, .int .i64 a2_3]) (t := 34) ?hr ?_; (case hd => rfl); (case hg => rfl); (case hr => first | (go_simp; done) | (go_simp; rfl)); intro G1 hg w9 hbox hb; have G2 := zg HB hg; have G3 := zg HB hg; have G4 := zn E0 hg; have G5 := zn' E0 hg; have G6 := zn E1 hg; have G7 := zn' E1 hg; have n0_ := Aside0.mk (hbox); replace E0 := zk E0 hb; replace E1 := zk E1 hb; replace HB := zb HB hb; have E2 := n0_; clear n0_; clear hb hbox hg; obtain ⟨V0, V1, V2, V3⟩ := zq2 E1; obtain ⟨V4, V5, V6, V7, V8, V9⟩ := zq3 E0; obtain ⟨Y0, Y1, Y2, Y3, Y4, Y5, Y6, Y7⟩ := zq4 E2) | ((with_reducible refine gate_calleeT (t := 8) rfl ?_); refine goesLT_ (some 17) rfl rfl Try.func78 (by kernel_rfl) rfl #[] #[.int .i64 a1_0, .int .i64 a0_0, .int .i64 a2_0, .int .i64 a2_2] rfl (by first | rfl | (go_simp; done) | (go_simp; rfl)) (by (try simp only [List.map_toArray, List.map_cons, List.map_nil]); first | done | rfl | (go_simp; done) | (go_simp; rfl)) ?_; (with_reducible refine (warp_covers_1.calls a1_0 a0_0 a2_0 a2_2 true _ A4.out).mono ?_); rintro e w' ⟨rfl, ⟨nd, rfl⟩⟩; refine ⟨_, rfl, ?_⟩) | (go_at_call 78; (with_reducible refine (warp_covers_1.calls a1_1 a0_1 a2_1 a2_3 t273 _ A6.out).mono ?_); rintro e w' ⟨rfl, ⟨nd, rfl⟩⟩))
  go_ret
  exact ⟨by first | rfl | (simp [errW_none, errW_some] <;> rfl) | (simp [*, errW_none, errW_some] <;> rfl), by exact zb0 HB⟩
 replace c5 := Bool.eq_false_iff.mpr c5
 subst c5
 rw [if_neg (show ¬ (false = true) by decide)] at H
 obtain rfl := Option.some.inj H
 go_enter Try.func47, Try.ntmps47
 go_wp2_with (first | ((with_reducible refine gate_dst (N := 3) rfl ?_); refine box_event ?hg (N := 3) ?hd (cs := #[.int .i64 a0_0, .int .i64 a0_1, .slice A0_2 l0_2.length c0_2]) (t := 40) ?hr ?_; (case hd => rfl); (case hg => rfl); (case hr => first | (go_simp; done) | (go_simp; rfl)); intro E3 hg w13 hbox hb; have E4 := zg HB hg; have E5 := zg HB hg; have n0_ := Aside0.mk (hbox); replace HB := zb HB hb; have E0 := n0_; clear n0_; clear hb hbox hg) | ((with_reducible refine gate_dst (N := 4) rfl ?_); refine box_event ?hg (N := 4) ?hd (cs := #[.int .i64 a1_0, .int .i64 a1_1]) (t := 28) ?hr ?_; (case hd => rfl); (case hg => rfl); (case hr => first | (go_simp; done) | (go_simp; rfl)); intro E6 hg w14 hbox hb; have E7 := zg HB hg; have E8 := zg HB hg; have E9 := zn E0 hg; have G0 := zn' E0 hg; have n0_ := Aside0.mk (hbox); replace E0 := zk E0 hb; replace HB := zb HB hb; have E1 := n0_; clear n0_; clear hb hbox hg) | ((with_reducible refine gate_dst (N := 5) rfl ?_); refine box_event ?hg (N := 5) ?hd (cs := #[.int .i64 a2_0, .int .i64 a2_1, .int .i64 a2_2, .int .i64 a2_3]) (t := 34) ?hr ?_; (case hd => rfl); (case hg => rfl); (case hr => first | (go_simp; done) | (go_simp; rfl)); intro G1 hg w15 hbox hb; have G2 := zg HB hg; have G3 := zg HB hg; have G4 := zn E0 hg; have G5 := zn' E0 hg; have G6 := zn E1 hg; have G7 := zn' E1 hg; have n0_ := Aside0.mk (hbox); replace E0 := zk E0 hb; replace E1 := zk E1 hb; replace HB := zb HB hb; have E2 := n0_; clear n0_; clear hb hbox hg; obtain ⟨Y8, Y9, Z0, Z1⟩ := zq2 E1; obtain ⟨Z2, Z3, Z4, Z5, Z6, Z7⟩ := zq3 E0; obtain ⟨Z8, Z9, J0, J1, J2, J3, J4, J5⟩ := zq4 E2) | ((with_reducible refine gate_calleeT (t := 8) rfl ?_); refine goesLT_ (some 17) rfl rfl Try.func78 (by kernel_rfl) rfl #[] #[.int .i64 a1_0, .int .i64 a0_0, .int .i64 a2_0, .int .i64 a2_2] rfl (by first | rfl | (go_simp; done) | (go_simp; rfl)) (by (try simp only [List.map_toArray, List.map_cons, List.map_nil]); first | done | rfl | (go_simp; done) | (go_simp; rfl)) ?_; (with_reducible refine (warp_covers_1.calls a1_0 a0_0 a2_0 a2_2 false _ A4.out).mono ?_); rintro e w' ⟨rfl, ⟨nd, rfl⟩⟩; refine ⟨_, rfl, ?_⟩))
 go_ret
 exact ⟨by first | rfl | (simp [errW_none, errW_some] <;> rfl) | (simp [*, errW_none, errW_some] <;> rfl), by exact zb0 HB⟩

/-! ### warp_Draw_1: function 48 -/
def warp_Draw_1.f (a0 : Int) (a1 : Int) (a2_0 : Int) (a2_1 : Int) (a2_2 : Int) (a2_3 : Int) (a3_0 : Int) (a3_1 : Int) (a4_0 : Int) (a4_1 : Int) (l4_2 : List (S48)) : Option (Int × Int × Int × Int) := (num_Clamp.f a0 a2_0 (wrap64 ((wrap64 (a2_0 + a2_2)) - 1))).bind fun t278 => ((num_Clamp.f a1 a2_1 (wrap64 ((wrap64 (a2_1 + a2_3)) - 1))).bind fun t279 => (if 0 ≤ (wrap64 ((wrap64 ((wrap64 (t279 - a3_1)) * a4_0)) + (wrap64 (t278 - a3_0)))) then (if (wrap64 ((wrap64 ((wrap64 (t279 - a3_1)) * a4_0)) + (wrap64 (t278 - a3_0)))) < (l4_2.length : Int) then (some ((rd_T48 l4_2 (wrap64 ((wrap64 ((wrap64 (t279 - a3_1)) * a4_0)) + (wrap64 (t278 - a3_0))))).f0, (rd_T48 l4_2 (wrap64 ((wrap64 ((wrap64 (t279 - a3_1)) * a4_0)) + (wrap64 (t278 - a3_0))))).f1, (rd_T48 l4_2 (wrap64 ((wrap64 ((wrap64 (t279 - a3_1)) * a4_0)) + (wrap64 (t278 - a3_0))))).f2, (rd_T48 l4_2 (wrap64 ((wrap64 ((wrap64 (t279 - a3_1)) * a4_0)) + (wrap64 (t278 - a3_0))))).f3)) else (none)) else (none)))
def warp_Draw_1.T1 : Bool × List (List Nat × List Nat) := (true, [([], []), ([], []), ([1], [1]), ([], []), ([3], [3]), ([], []), ([5], [5]), ([4, 6], [4, 6]), ([7], [7]), ([0, 2, 8], [0, 2, 8]), ([], []), ([10], [10]), ([9, 11], [9, 11]), ([12, 9, 0, 1, 2, 3, 4, 5, 6, 7, 8, 9, 10, 11, 12], [0, 12])])
def warp_Draw_1.B1 : List Nat := [0, 0, 2, 0, 8, 0, 32, 120, 248, 511, 0, 1024, 4095, 8191]
theorem warp_Draw_1.tab1 : rtab .any (opsOf Try.f48 1) = warp_Draw_1.T1 := by kernel_rfl
theorem warp_Draw_1.bits1 : waitsOk warp_Draw_1.T1.2 warp_Draw_1.B1 = true := by kernel_rfl
def warp_Draw_1.T2 : Bool × List (List Nat × List Nat) := (true, [([], []), ([], []), ([1], [1]), ([], []), ([3], [3]), ([], []), ([5], [5]), ([4, 6], [4, 6]), ([7], [7]), ([0, 2, 8], [0, 2, 8]), ([], []), ([10], [10]), ([9, 11], [9, 11]), ([12, 9, 0, 1, 2, 3, 4, 5, 6, 7, 8, 9, 10, 11, 12], [0, 12])])
def warp_Draw_1.B2 : List Nat := [0, 0, 2, 0, 8, 0, 32, 120, 248, 511, 0, 1024, 4095, 8191]
theorem warp_Draw_1.tab2 : rtab .any (opsOf Try.f48 2) = warp_Draw_1.T2 := by kernel_rfl
theorem warp_Draw_1.bits2 : waitsOk warp_Draw_1.T2.2 warp_Draw_1.B2 = true := by kernel_rfl
set_option maxHeartbeats 8000000 in
set_option maxRecDepth 100000 in
theorem warp_Draw_1.calls (a0 : Int) (a1 : Int) (E5 : Nat) (a2_0 : Int) (a2_1 : Int) (a2_2 : Int) (a2_3 : Int) (E6 : Nat) (a3_0 : Int) (a3_1 : Int) (E8 : Nat) (a4_0 : Int) (a4_1 : Int) (A4_2 : Option Addr) (c4_2 : Nat) (l4_2 : List (S48)) (r1 : Int) (r2 : Int) (r3 : Int) (r4 : Int) (w : World) (hp2_0 : w.heap[E5]? = some (.cells #[.int .i64 a2_0, .int .i64 a2_1, .int .i64 a2_2, .int .i64 a2_3] 34 (0, 0))) (hp3_0 : w.heap[E6]? = some (.cells #[.int .i64 a3_0, .int .i64 a3_1] 28 (0, 0))) (hp4_0 : w.heap[E8]? = some (.cells #[.int .i64 a4_0, .int .i64 a4_1, .slice A4_2 l4_2.length c4_2] 40 (0, 0))) (hr4_2 : Kd.C k48 w A4_2 l4_2.length l4_2) (hc4_2 : l4_2.length ≤ c4_2) (h : warp_Draw_1.f a0 a1 a2_0 a2_1 a2_2 a2_3 a3_0 a3_1 a4_0 a4_1 l4_2 = some (r1, r2, r3, r4)) :
  Calls Try.prog 48 #[.int .i64 a0, .int .i64 a1, .pointer (some ⟨E5, 0, none⟩), .pointer (some ⟨E6, 0, none⟩), .pointer (some ⟨E8, 0, none⟩)] w fun e w' => e = .returned (.agg #[.int .i64 r1, .int .i64 r2, .int .i64 r3, .int .i64 r4]) ∧ Below w.heap.size w w' := by
 have hu48 := Try.underlying48
 have G3 := Aside0.mk hr4_2
 have V2 := Aside0.mk hc4_2
 clear hr4_2 hc4_2
 have E0 := Aside0.mk hp2_0
 have GL274 := Aside0.mk (show E5 < w.heap.size from blk_lt hp2_0)
 clear hp2_0
 have E1 := Aside0.mk hp3_0
 have GL275 := Aside0.mk (show E6 < w.heap.size from blk_lt hp3_0)
 clear hp3_0
 have E3 := Aside0.mk hp4_0
 have GL276 := Aside0.mk (show E8 < w.heap.size from blk_lt hp4_0)
 clear hp4_0
 have HB := Aside0.mk (Below.refl w.heap.size w)
 have H : ((num_Clamp.f a0 a2_0 (wrap64 ((wrap64 (a2_0 + a2_2)) - 1))).bind fun t278 => ((num_Clamp.f a1 a2_1 (wrap64 ((wrap64 (a2_1 + a2_3)) - 1))).bind fun t279 => (if 0 ≤ (wrap64 ((wrap64 ((wrap64 (t279 - a3_1)) * a4_0)) + (wrap64 (t278 - a3_0)))) then (if (wrap64 ((wrap64 ((wrap64 (t279 - a3_1)) * a4_0)) + (wrap64 (t278 - a3_0)))) < (l4_2.length : Int) then (some ((rd_T48 l4_2 (wrap64 ((wrap64 ((wrap64 (t279 - a3_1)) * a4_0)) + (wrap64 (t278 - a3_0))))).f0, (rd_T48 l4_2 (wrap64 ((wrap64 ((wrap64 (t279 - a3_1)) * a4_0)) + (wrap64 (t278 - a3_0))))).f1, (rd_T48 l4_2 (wrap64 ((wrap64 ((wrap64 (t279 - a3_1)) * a4_0)) + (wrap64 (t278 - a3_0))))).f2, (rd_T48 l4_2 (wrap64 ((wrap64 ((wrap64 (t279 - a3_1)) * a4_0)) + (wrap64 (t278 - a3_0))))).f3)) else (none)) else (none)))) = some (r1, r2, r3, r4) := h
 clear h
 replace H := Option.bind_eq_some_iff.mp H
 obtain ⟨t278, A60, H⟩ := H
 try dsimp only at H
 have A6 := Aside0.mk A60
 clear A60
 replace H := Option.bind_eq_some_iff.mp H
 obtain ⟨t279, A70, H⟩ := H
 try dsimp only at H
 have A7 := Aside0.mk A70
 clear A70
 obtain ⟨E2, E7⟩ : ∃ j_ : Int, (wrap64 ((wrap64 ((wrap64 (t279 - a3_1)) * a4_0)) + (wrap64 (t278 - a3_0)))) = j_ := ⟨_, rfl⟩
 replace H : (if 0 ≤ (E2) then (if (E2) < (l4_2.length : Int) then (some ((rd_T48 l4_2 (E2)).f0, (rd_T48 l4_2 (E2)).f1, (rd_T48 l4_2 (E2)).f2, (rd_T48 l4_2 (E2)).f3)) else (none)) else (none)) = some (r1, r2, r3, r4) := by first | (rw [E7] at H; exact H) | (simp only [E7] at H ⊢; exact H)
 (try rw [E7] at A6)
 (try rw [E7] at A7)
 have V3 : (IntKind.i64.wrap ((wrap64 ((wrap64 (t279 - a3_1)) * a4_0)) + (wrap64 (t278 - a3_0)))) = E2 := (i64_w _).trans E7
 by_cases c9 : 0 ≤ (E2)
 rotate_left
 ·rw [if_neg c9] at H
  exact absurd H (by simp)

 rw [if_pos c9] at H
 have V4 : decide (0 ≤ (E2)) = true := decide_eq_true c9
 clear c9
 by_cases c10 : (E2) < (l4_2.length : Int)
 rotate_left
 ·rw [if_neg c10] at H
  exact absurd H (by simp)
 rw [if_pos c10] at H
 have V5 : decide ((E2) < (l4_2.length : Int)) = true := decide_eq_true c10
 clear c10
 simp only [Option.some.injEq, Prod.mk.injEq] at H
 obtain ⟨rfl, rfl, rfl, rfl⟩ := H
 go_enter Try.func48, Try.ntmps48
 try go_wp2_with (first | ((with_reducible refine gate_dst (N := 7) rfl ?_); refine box_event ?hg (N := 7) ?hd (cs := #[.int .i64 0, .int .i64 0, .int .i64 0, .int .i64 0]) (t := 48) ?hr ?_; (case hd => rfl); (case hg => rfl); (case hr => first | (go_simp; done) | (go_simp; rfl)); intro G4 hg w11 hbox hb; have V6 := zg HB hg; have G5 := zg HB hg; have G6 := zn E0 hg; have G7 := zn' E0 hg; have G8 := zn E1 hg; have G9 := zn' E1 hg; have V0 := zn E3 hg; have V1 := zn' E3 hg; have n0_ := Aside0.mk (hbox); replace E0 := zk E0 hb; replace E1 := zk E1 hb; replace E3 := zk E3 hb; replace HB := zb HB hb; have E4 := n0_; clear n0_; clear hb hbox hg))
 replace E0 := zkd E0
 replace E1 := zkd E1
 replace E3 := zkd E3
 replace E4 := zkd E4
 replace HB := zbd HB
 refine start_ (n := 14) (S := fun w' => w'.cell? ⟨E5, 0, none⟩ = some (.int .i64 a2_0) ∧ w'.cell? ⟨E5, 1, none⟩ = some (.int .i64 a2_1) ∧ w'.cell? ⟨E5, 2, none⟩ = some (.int .i64 a2_2) ∧ w'.cell? ⟨E5, 3, none⟩ = some (.int .i64 a2_3) ∧ w'.cell? ⟨E6, 0, none⟩ = some (.int .i64 a3_0) ∧ w'.cell? ⟨E6, 1, none⟩ = some (.int .i64 a3_1)) (ds := []) (bs 14 0) (by kernel_rfl) rfl rfl ⟨(blk_cell E0.out 0).trans rfl, (blk_cell E0.out 1).trans rfl, (blk_cell E0.out 2).trans rfl, (blk_cell E0.out 3).trans rfl, (blk_cell E1.out 0).trans rfl, (blk_cell E1.out 1).trans rfl⟩ (fun hHeld => ?_); refine with_tabW warp_Draw_1.tab1 warp_Draw_1.bits1 (fun HT_ HW_ => ?_)
 generalize w11.drew = w12 at E0 E1 E3 E4 HB hHeld ⊢
 refine pure_ (i := 0) (N := some 8) (v := ?_) (a' := ?_) (bs 14 1) rfl rfl (any_of HT_.out (by kernel_rfl)) (fun _ _ _ h => h) (Or.inl ⟨by rfl, ?_⟩) ?_ ?_
 rotate_left
 ·intro w'
  go_simp
  with_reducible rfl
 rotate_left
 ·simp only [Act.put, sA, sB, sC, i64_w, i32_w]
  rfl
 refine pure_ (i := 1) (N := some 9) (v := ?_) (a' := ?_) (bs 14 3) rfl rfl (any_of HT_.out (by kernel_rfl)) (fun _ _ _ h => h) (Or.inl ⟨by rfl, ?_⟩) ?_ ?_
 rotate_left
 ·intro w'
  go_simp
  with_reducible rfl
 rotate_left
 ·simp only [Act.put, sA, sB, sC, i64_w, i32_w]
  rfl
 refine pure_ (i := 3) (N := some 11) (v := ?_) (a' := ?_) (bs 14 11) rfl rfl (any_of HT_.out (by kernel_rfl)) (fun _ _ _ h => h) (Or.inl ⟨by rfl, ?_⟩) ?_ ?_
 rotate_left
 ·intro w'
  go_simp
  with_reducible rfl
 rotate_left
 ·simp only [Act.put, sA, sB, sC, i64_w, i32_w]
  rfl
 refine pure_ (i := 5) (N := some 13) (v := ?_) (a' := ?_) (bs 14 43) rfl rfl (any_of HT_.out (by kernel_rfl)) (fun _ _ _ h => h) (Or.inl ⟨by rfl, ?_⟩) ?_ ?_
 rotate_left
 ·intro w'
  go_simp
  with_reducible rfl
 rotate_left
 ·simp only [Act.put, sA, sB, sC, i64_w, i32_w]
  rfl
 refine pure_ (i := 10) (N := some 18) (v := ?_) (a' := ?_) (bs 14 1067) rfl rfl (any_of HT_.out (by kernel_rfl)) (fun _ _ _ h => h) (Or.inl ⟨by rfl, ?_⟩) ?_ ?_
 rotate_left
 ·intro w'
  go_simp
  with_reducible rfl
 rotate_left
 ·simp only [Act.put, sA, sB, sC, i64_w, i32_w]
  rfl
 refine take_ (i := 2) (N := some 10) (v := ?_) (a' := ?_) (bs 14 1071) rfl rfl (take_ofW HT_.out HW_.out (by kernel_rfl)) (fun _ _ _ h => h) (Or.inl ⟨by rfl, ?_⟩) hHeld ?_ ?_
 rotate_left
 ·rintro w' ⟨s0, s1, s2, s3, s4, s5⟩
  go_simp
  with_reducible rfl
 rotate_left
 ·simp only [Act.put, sA, sB, sC, i64_w, i32_w]
  rfl
 refine take_ (i := 4) (N := some 12) (v := ?_) (a' := ?_) (bs 14 1087) rfl rfl (take_ofW HT_.out HW_.out (by kernel_rfl)) (fun _ _ _ h => h) (Or.inl ⟨by rfl, ?_⟩) hHeld ?_ ?_
 rotate_left
 ·rintro w' ⟨s0, s1, s2, s3, s4, s5⟩
  go_simp
  with_reducible rfl
 rotate_left
 ·simp only [Act.put, sA, sB, sC, i64_w, i32_w]
  rfl
 refine take_ (i := 6) (N := some 14) (v := ?_) (a' := ?_) (bs 14 1151) rfl rfl (take_ofW HT_.out HW_.out (by kernel_rfl)) (fun _ _ _ h => h) (Or.inl ⟨by rfl, ?_⟩) hHeld ?_ ?_
 rotate_left
 ·rintro w' ⟨s0, s1, s2, s3, s4, s5⟩
  go_simp
  with_reducible rfl
 rotate_left
 ·simp only [Act.put, sA, sB, sC, i64_w, i32_w]
  rfl
 refine pure_ (i := 7) (N := some 15) (v := ?_) (a' := ?_) (bs 14 1279) rfl rfl (any_of HT_.out (by kernel_rfl)) (fun _ _ _ h => h) (Or.inl ⟨by rfl, ?_⟩) ?_ ?_
 rotate_left
 ·intro w'
  go_simp
  with_reducible rfl
 rotate_left
 ·simp only [Act.put, sA, sB, sC, i64_w, i32_w]
  rfl
 refine pure_ (i := 8) (N := some 16) (v := ?_) (a' := ?_) (bs 14 1535) rfl rfl (any_of HT_.out (by kernel_rfl)) (fun _ _ _ h => h) (Or.inl ⟨by rfl, ?_⟩) ?_ ?_
 rotate_left
 ·intro w'
  go_simp
  with_reducible rfl
 rotate_left
 ·simp only [Act.put, sA, sB, sC, i64_w, i32_w]
  rfl
 refine take_ (i := 11) (N := some 19) (v := ?_) (a' := ?_) (bs 14 3583) rfl rfl (take_ofW HT_.out HW_.out (by kernel_rfl)) (fun _ _ _ h => h) (Or.inl ⟨by rfl, ?_⟩) hHeld ?_ ?_
 rotate_left
 ·rintro w' ⟨s0, s1, s2, s3, s4, s5⟩
  go_simp
  with_reducible rfl
 rotate_left
 ·simp only [Act.put, sA, sB, sC, i64_w, i32_w]
  rfl
 refine one_ (i := 9) (N := some 17) (bs 14 4095) rfl rfl (one_of HT_.out (by kernel_rfl)) (by decide) (fun K hK => ?_)
 refine goes_ Try.func49 (by kernel_rfl) rfl #[.int .i64 a0, .int .i64 a2_0, .int .i64 (wrap64 ((wrap64 (a2_0 + a2_2)) - 1))] (by rfl) rfl rfl (by (try simp only [List.map_toArray, List.map_cons, List.map_nil]); first | done | rfl | (simp only [List.length_drop, List.length_take]; rfl)) ?_
 with_reducible refine (num_Clamp.calls a0 a2_0 (wrap64 ((wrap64 (a2_0 + a2_2)) - 1)) t278 _ A6.out).mono ?_
 rintro e w13 ⟨rfl, hb⟩
 refine ⟨_, rfl, ?_⟩
 replace E0 := zk E0 hb
 replace E1 := zk E1 hb
 replace E3 := zk E3 hb
 replace E4 := zk E4 hb
 replace HB := zb HB hb
 (try clear hb)
 (try clear hb2)
 (try clear hk)
 (try clear hi)
 refine hK.out _ _ ⟨(blk_cell E0.out 0).trans rfl, (blk_cell E0.out 1).trans rfl, (blk_cell E0.out 2).trans rfl, (blk_cell E0.out 3).trans rfl, (blk_cell E1.out 0).trans rfl, (blk_cell E1.out 1).trans rfl⟩ (fun hHeld => ?_)
 clear hK K
 refine norm_ (a' := ?_) ?_ ?_
 rotate_left
 ·show Act.put _ (some 17) _ = _
  simp only [Act.put, sA, sB, sC, i64_w, i32_w]
  rfl
 refine pure_ (i := 12) (N := some 20) (v := ?_) (a' := ?_) (bs 14 8191) rfl rfl (any_of HT_.out (by kernel_rfl)) (fun _ _ _ h => h) (Or.inl ⟨by rfl, ?_⟩) ?_ ?_
 rotate_left
 ·intro w'
  go_simp
  with_reducible rfl
 rotate_left
 ·simp only [Act.put, sA, sB, sC, i64_w, i32_w]
  rfl
 refine pure_ (i := 13) (N := some 0) (v := ?_) (a' := ?_) (bs 14 16383) rfl rfl (any_of HT_.out (by kernel_rfl)) (fun _ _ _ h => h) (Or.inl ⟨by rfl, ?_⟩) ?_ ?_
 rotate_left
 ·intro w'
  go_simp
  with_reducible rfl
 rotate_left
 ·simp only [Act.put, sA, sB, sC, i64_w, i32_w]
  rfl
 refine done_ (done_of HT_.out (by kernel_rfl)) ?_
 try go_wp2
 replace E0 := zkd E0
 replace E1 := zkd E1
 replace E3 := zkd E3
 replace E4 := zkd E4
 replace HB := zbd HB
 refine start_ (n := 14) (S := fun w' => w'.cell? ⟨E5, 0, none⟩ = some (.int .i64 a2_0) ∧ w'.cell? ⟨E5, 1, none⟩ = some (.int .i64 a2_1) ∧ w'.cell? ⟨E5, 2, none⟩ = some (.int .i64 a2_2) ∧ w'.cell? ⟨E5, 3, none⟩ = some (.int .i64 a2_3) ∧ w'.cell? ⟨E6, 0, none⟩ = some (.int .i64 a3_0) ∧ w'.cell? ⟨E6, 1, none⟩ = some (.int .i64 a3_1)) (ds := []) (bs 14 0) (by kernel_rfl) rfl rfl ⟨(blk_cell E0.out 0).trans rfl, (blk_cell E0.out 1).trans rfl, (blk_cell E0.out 2).trans rfl, (blk_cell E0.out 3).trans rfl, (blk_cell E1.out 0).trans rfl, (blk_cell E1.out 1).trans rfl⟩ (fun hHeld => ?_); refine with_tabW warp_Draw_1.tab2 warp_Draw_1.bits2 (fun HT_ HW_ => ?_)
 generalize w13.drew = w14 at E0 E1 E3 E4 HB hHeld ⊢
 refine pure_ (i := 0) (N := some 21) (v := ?_) (a' := ?_) (bs 14 1) rfl rfl (any_of HT_.out (by kernel_rfl)) (fun _ _ _ h => h) (Or.inl ⟨by rfl, ?_⟩) ?_ ?_
 rotate_left
 ·intro w'
  go_simp
  with_reducible rfl
 rotate_left
 ·simp only [Act.put, sA, sB, sC, i64_w, i32_w]
  rfl
 refine pure_ (i := 1) (N := some 22) (v := ?_) (a' := ?_) (bs 14 3) rfl rfl (any_of HT_.out (by kernel_rfl)) (fun _ _ _ h => h) (Or.inl ⟨by rfl, ?_⟩) ?_ ?_
 rotate_left
 ·intro w'
  go_simp
  with_reducible rfl
 rotate_left
 ·simp only [Act.put, sA, sB, sC, i64_w, i32_w]
  rfl
 refine pure_ (i := 3) (N := some 24) (v := ?_) (a' := ?_) (bs 14 11) rfl rfl (any_of HT_.out (by kernel_rfl)) (fun _ _ _ h => h) (Or.inl ⟨by rfl, ?_⟩) ?_ ?_
 rotate_left
 ·intro w'
  go_simp
  with_reducible rfl
 rotate_left
 ·simp only [Act.put, sA, sB, sC, i64_w, i32_w]
  rfl
 refine pure_ (i := 5) (N := some 26) (v := ?_) (a' := ?_) (bs 14 43) rfl rfl (any_of HT_.out (by kernel_rfl)) (fun _ _ _ h => h) (Or.inl ⟨by rfl, ?_⟩) ?_ ?_
 rotate_left
 ·intro w'
  go_simp
  with_reducible rfl
 rotate_left
 ·simp only [Act.put, sA, sB, sC, i64_w, i32_w]
  rfl
 refine pure_ (i := 10) (N := some 31) (v := ?_) (a' := ?_) (bs 14 1067) rfl rfl (any_of HT_.out (by kernel_rfl)) (fun _ _ _ h => h) (Or.inl ⟨by rfl, ?_⟩) ?_ ?_
 rotate_left
 ·intro w'
  go_simp
  with_reducible rfl
 rotate_left
 ·simp only [Act.put, sA, sB, sC, i64_w, i32_w]
  rfl
 refine take_ (i := 2) (N := some 23) (v := ?_) (a' := ?_) (bs 14 1071) rfl rfl (take_ofW HT_.out HW_.out (by kernel_rfl)) (fun _ _ _ h => h) (Or.inl ⟨by rfl, ?_⟩) hHeld ?_ ?_
 rotate_left
 ·rintro w' ⟨s0, s1, s2, s3, s4, s5⟩
  go_simp
  with_reducible rfl
 rotate_left
 ·simp only [Act.put, sA, sB, sC, i64_w, i32_w]
  rfl
 refine take_ (i := 4) (N := some 25) (v := ?_) (a' := ?_) (bs 14 1087) rfl rfl (take_ofW HT_.out HW_.out (by kernel_rfl)) (fun _ _ _ h => h) (Or.inl ⟨by rfl, ?_⟩) hHeld ?_ ?_
 rotate_left
 ·rintro w' ⟨s0, s1, s2, s3, s4, s5⟩
  go_simp
  with_reducible rfl
 rotate_left
 ·simp only [Act.put, sA, sB, sC, i64_w, i32_w]
  rfl
 refine take_ (i := 6) (N := some 27) (v := ?_) (a' := ?_) (bs 14 1151) rfl rfl (take_ofW HT_.out HW_.out (by kernel_rfl)) (fun _ _ _ h => h) (Or.inl ⟨by rfl, ?_⟩) hHeld ?_ ?_
 rotate_left
 ·rintro w' ⟨s0, s1, s2, s3, s4, s5⟩
  go_simp
  with_reducible rfl
 rotate_left
 ·simp only [Act.put, sA, sB, sC, i64_w, i32_w]
  rfl
 refine pure_ (i := 7) (N := some 28) (v := ?_) (a' := ?_) (bs 14 1279) rfl rfl (any_of HT_.out (by kernel_rfl)) (fun _ _ _ h => h) (Or.inl ⟨by rfl, ?_⟩) ?_ ?_
 rotate_left
 ·intro w'
  go_simp
  with_reducible rfl
 rotate_left
 ·simp only [Act.put, sA, sB, sC, i64_w, i32_w]
  rfl
 refine pure_ (i := 8) (N := some 29) (v := ?_) (a' := ?_) (bs 14 1535) rfl rfl (any_of HT_.out (by kernel_rfl)) (fun _ _ _ h => h) (Or.inl ⟨by rfl, ?_⟩) ?_ ?_
 rotate_left
 ·intro w'
  go_simp
  with_reducible rfl
 rotate_left
 ·simp only [Act.put, sA, sB, sC, i64_w, i32_w]
  rfl
 refine take_ (i := 11) (N := some 32) (v := ?_) (a' := ?_) (bs 14 3583) rfl rfl (take_ofW HT_.out HW_.out (by kernel_rfl)) (fun _ _ _ h => h) (Or.inl ⟨by rfl, ?_⟩) hHeld ?_ ?_
 rotate_left
 ·rintro w' ⟨s0, s1, s2, s3, s4, s5⟩
  go_simp
  with_reducible rfl
 rotate_left
 ·simp only [Act.put, sA, sB, sC, i64_w, i32_w]
  rfl
 refine one_ (i := 9) (N := some 30) (bs 14 4095) rfl rfl (one_of HT_.out (by kernel_rfl)) (by decide) (fun K hK => ?_)
 refine goes_ Try.func49 (by kernel_rfl) rfl #[.int .i64 a1, .int .i64 a2_1, .int .i64 (wrap64 ((wrap64 (a2_1 + a2_3)) - 1))] (by rfl) rfl rfl (by (try simp only [List.map_toArray, List.map_cons, List.map_nil]); first | done | rfl | (simp only [List.length_drop, List.length_take]; rfl)) ?_
 with_reducible refine (num_Clamp.calls a1 a2_1 (wrap64 ((wrap64 (a2_1 + a2_3)) - 1)) t279 _ A7.out).mono ?_
 rintro e w15 ⟨rfl, hb⟩
 refine ⟨_, rfl, ?_⟩
 replace E0 := zk E0 hb
 replace E1 := zk E1 hb
 replace E3 := zk E3 hb
 replace E4 := zk E4 hb
 replace HB := zb HB hb
 (try clear hb)
 (try clear hb2)
 (try clear hk)
 (try clear hi)
 refine hK.out _ _ ⟨(blk_cell E0.out 0).trans rfl, (blk_cell E0.out 1).trans rfl, (blk_cell E0.out 2).trans rfl, (blk_cell E0.out 3).trans rfl, (blk_cell E1.out 0).trans rfl, (blk_cell E1.out 1).trans rfl⟩ (fun hHeld => ?_)
 clear hK K
 refine norm_ (a' := ?_) ?_ ?_
 rotate_left
 ·show Act.put _ (some 30) _ = _
  simp only [Act.put, sA, sB, sC, i64_w, i32_w]
  rfl
 refine pure_ (i := 12) (N := some 33) (v := ?_) (a' := ?_) (bs 14 8191) rfl rfl (any_of HT_.out (by kernel_rfl)) (fun _ _ _ h => h) (Or.inl ⟨by rfl, ?_⟩) ?_ ?_
 rotate_left
 ·intro w'
  go_simp
  with_reducible rfl
 rotate_left
 ·simp only [Act.put, sA, sB, sC, i64_w, i32_w]
  rfl
 refine pure_ (i := 13) (N := some 1) (v := ?_) (a' := ?_) (bs 14 16383) rfl rfl (any_of HT_.out (by kernel_rfl)) (fun _ _ _ h => h) (Or.inl ⟨by rfl, ?_⟩) ?_ ?_
 rotate_left
 ·intro w'
  go_simp
  with_reducible rfl
 rotate_left
 ·simp only [Act.put, sA, sB, sC, i64_w, i32_w]
  rfl
 refine done_ (done_of HT_.out (by kernel_rfl)) ?_
 have V7 := V0.out
 have V8 := V1.out
 obtain ⟨V9, Y0, Y1, Y2, Y3, Y4⟩ := zq3 E3
 have p280 : 0 ≤ ((E2) : Int) := of_decide_eq_true (by first | (with_reducible assumption) | assumption)
 have q280 : (E2) < (l4_2.length : Int) := of_decide_eq_true (by first | (with_reducible assumption) | assumption)
 obtain ⟨Y5, e280, E9, G0, G1, G2⟩ := at_T48 G3.out (E2) p280 q280
 cases e280
 replace E9 := (HB.out.cell (World.block_lt_of_cell? w _ E9)).trans E9
 replace G0 := (HB.out.cell (World.block_lt_of_cell? w _ G0)).trans G0
 replace G1 := (HB.out.cell (World.block_lt_of_cell? w _ G1)).trans G1
 replace G2 := (HB.out.cell (World.block_lt_of_cell? w _ G2)).trans G2
 replace p280 := eq_true p280
 replace q280 := eq_true q280
 have Y6 := G7.out
 have Y7 := G6.out
 have Y8 := G9.out
 have Y9 := G8.out
 obtain ⟨Z0, Z1, Z2, Z3, Z4, Z5, Z6, Z7⟩ := zq4 E4
 try go_wp2
 refine bodyPost_ret (results_cell_row rfl _ _ G4 48 #[.int .i64 ((rd_T48 l4_2 (E2)).f0), .int .i64 ((rd_T48 l4_2 (E2)).f1), .int .i64 ((rd_T48 l4_2 (E2)).f2), .int .i64 ((rd_T48 l4_2 (E2)).f3)] (0, 0) _ rfl (by exact zp E4 rfl) Try.underlying48 rfl (by kernel_rfl)) rfl ?_
 exact ⟨by first | rfl | (simp [errW_none, errW_some] <;> rfl) | (simp only [← E7]; first | rfl | (simp [errW_none, errW_some] <;> rfl)) | (simp [*, errW_none, errW_some] <;> rfl), by exact zbo HB G5⟩
/-! ### kernel_cubic: function 89 -/
def kernel_cubic.f (k : Nat) (a0 : Int) (a1 : Int) (a2 : Int) (a3 : Int) (a4 : Int) (a5 : Int) : Option (Int) := (num_Div.f k (wrap64 ((wrap64 ((wrap64 ((wrap64 ((wrap64 ((wrap64 (a1 * a0)) + (wrap64 (a2 * 65536)))) * a0)) + (wrap64 ((wrap64 (a3 * 65536)) * 65536)))) * a0)) + (wrap64 ((wrap64 ((wrap64 (a4 * 65536)) * 65536)) * 65536)))) (wrap64 ((wrap64 (a5 * 65536)) * 65536))).bind fun t281 => (some t281)
theorem kernel_cubic.mono : ∀ a0 a1 a2 a3 a4 a5 k, LeO (kernel_cubic.f k a0 a1 a2 a3 a4 a5) (kernel_cubic.f (k + 1) a0 a1 a2 a3 a4 a5) := by
 intro a0 a1 a2 a3 a4 a5 k
 unfold kernel_cubic.f
 repeat' first
   | (with_reducible exact num_Div.mono _ _ _)
   | (with_reducible exact LeO.refl _)
   | (with_reducible exact LeO.none _)
   | (with_reducible refine LeO.ite ?_ ?_)
   | (with_reducible refine LeO.bind ?_ (fun _ => ?_))
   | exact num_Div.mono _ _ _
   | exact LeO.none _
   | refine LeO.ite ?_ ?_
   | refine LeO.bind ?_ (fun _ => ?_)
set_option maxHeartbeats 8000000 in
set_option maxRecDepth 100000 in
theorem kernel_cubic.calls (k : Nat) (a0 : Int) (a1 : Int) (a2 : Int) (a3 : Int) (a4 : Int) (a5 : Int) (r : Int) (w : World) (h : kernel_cubic.f k a0 a1 a2 a3 a4 a5 = some r) :
  Calls Try.prog 89 #[.int .i64 a0, .int .i64 a1, .int .i64 a2, .int .i64 a3, .int .i64 a4, .int .i64 a5] w fun e w' => e = .returned (.int .i64 r) ∧ Drawn0 w w' := by
 have H : ((num_Div.f k (wrap64 ((wrap64 ((wrap64 ((wrap64 ((wrap64 ((wrap64 (a1 * a0)) + (wrap64 (a2 * 65536)))) * a0)) + (wrap64 ((wrap64 (a3 * 65536)) * 65536)))) * a0)) + (wrap64 ((wrap64 ((wrap64 (a4 * 65536)) * 65536)) * 65536)))) (wrap64 ((wrap64 (a5 * 65536)) * 65536))).bind fun t281 => (some t281)) = some r := h
 clear h
 replace H := Option.bind_eq_some_iff.mp H
 obtain ⟨t281, A70, H⟩ := H
 try dsimp only at H
 have A7 := Aside0.mk A70
 clear A70
 obtain rfl := Option.some.inj H
 go_enter Try.func89, Try.ntmps89
 go_wp2_with (first | ((with_reducible refine gate_callee (f := 67) rfl ?_); refine goesL_ (some 35) rfl rfl Try.func67 (by kernel_rfl) rfl #[.int .i64 (wrap64 ((wrap64 ((wrap64 ((wrap64 ((wrap64 ((wrap64 (a1 * a0)) + (wrap64 (a2 * 65536)))) * a0)) + (wrap64 ((wrap64 (a3 * 65536)) * 65536)))) * a0)) + (wrap64 ((wrap64 ((wrap64 (a4 * 65536)) * 65536)) * 65536)))), .int .i64 (wrap64 ((wrap64 (a5 * 65536)) * 65536))] rfl (by (try simp only [List.map_toArray, List.map_cons, List.map_nil]); first | done | rfl | (simp only [List.length_drop, List.length_take]; rfl)) ?_; (with_reducible refine (num_Div.calls k (wrap64 ((wrap64 ((wrap64 ((wrap64 ((wrap64 ((wrap64 (a1 * a0)) + (wrap64 (a2 * 65536)))) * a0)) + (wrap64 ((wrap64 (a3 * 65536)) * 65536)))) * a0)) + (wrap64 ((wrap64 ((wrap64 (a4 * 65536)) * 65536)) * 65536)))) (wrap64 ((wrap64 (a5 * 65536)) * 65536)) t281 _ A7.out).mono ?_); rintro e w' ⟨rfl, ⟨nd, rfl⟩⟩; refine ⟨_, rfl, ?_⟩))
 go_ret
 exact ⟨by first | rfl | (simp; done) | (simp [*]; done), by repeat (first | exact Drawn0.refl _ | apply Drawn0.step)⟩

/-! ### kernel_Weight: function 80 -/
def kernel_Weight.j0 : Nat → Int → Int → Bool → Option (Int)
 | 0, _, _, _ => none
 | k + 1, x0, x1, x11 => if x11 = true then (some 0) else (if x0 = 0 then (if x1 ≥ (-32768) then (if x1 < 32768 then (some 65536) else (some 0)) else (some 0)) else (if x0 = 1 then (some (mx 0 (wrap64 (65536 - (mx x1 (wrap64 (-x1))))))) else (if x0 = 3 then (if (mx x1 (wrap64 (-x1))) < 32768 then (some 65536) else (if (mx x1 (wrap64 (-x1))) = 32768 then (some 32768) else (some 0))) else (if x0 = 2 then (if (mx x1 (wrap64 (-x1))) < 65536 then ((kernel_cubic.f k (mx x1 (wrap64 (-x1))) 3 (-5) 0 2 2).bind fun t282 => (some t282)) else ((kernel_cubic.f k (mx x1 (wrap64 (-x1))) (-1) 5 (-8) 4 2).bind fun t283 => (some t283))) else (if x0 = 4 then (if (mx x1 (wrap64 (-x1))) < 65536 then ((kernel_cubic.f k (mx x1 (wrap64 (-x1))) 21 (-36) 0 16 18).bind fun t284 => (some t284)) else ((kernel_cubic.f k (mx x1 (wrap64 (-x1))) (-7) 36 (-60) 32 18).bind fun t285 => (some t285))) else (some 0))))))
def kernel_Weight.f (k : Nat) (a0 : Int) (a1 : Int) : Option (Int) := if a1 ≤ (-131072) then (kernel_Weight.j0 k a0 a1 true) else (kernel_Weight.j0 k a0 a1 (decide (a1 ≥ 131072)))
theorem kernel_Weight.mono_l : ∀ k, (∀ y0 y1 y2, LeO (kernel_Weight.j0 k y0 y1 y2) (kernel_Weight.j0 (k + 1) y0 y1 y2))
 | 0 => fun _ _ _ r h => by simp [kernel_Weight.j0] at h
 | k + 1 => by
  have ih0 := kernel_Weight.mono_l k
  ·intro y0 y1 y2
   unfold kernel_Weight.j0
   repeat' first
   | (with_reducible exact ih0 _ _ _)
   | (with_reducible exact kernel_cubic.mono _ _ _ _ _ _ _)
   | (with_reducible exact LeO.refl _)
   | (with_reducible exact LeO.none _)
   | (with_reducible refine LeO.ite ?_ ?_)
   | (with_reducible refine LeO.bind ?_ (fun _ => ?_))
   | exact ih0 _ _ _
   | exact kernel_cubic.mono _ _ _ _ _ _ _
   | exact LeO.none _
   | refine LeO.ite ?_ ?_
   | refine LeO.bind ?_ (fun _ => ?_)
theorem kernel_Weight.mono : ∀ a0 a1 k, LeO (kernel_Weight.f k a0 a1) (kernel_Weight.f (k + 1) a0 a1) := by
 intro a0 a1 k
 have ih0 := kernel_Weight.mono_l k
 unfold kernel_Weight.f
 repeat' first
   | (with_reducible exact ih0 _ _ _)
   | (with_reducible exact kernel_cubic.mono _ _ _ _ _ _ _)
   | (with_reducible exact LeO.refl _)
   | (with_reducible exact LeO.none _)
   | (with_reducible refine LeO.ite ?_ ?_)
   | (with_reducible refine LeO.bind ?_ (fun _ => ?_))
   | exact ih0 _ _ _
   | exact kernel_cubic.mono _ _ _ _ _ _ _
   | exact LeO.none _
   | refine LeO.ite ?_ ?_
   | refine LeO.bind ?_ (fun _ => ?_)
set_option maxHeartbeats 8000000 in
set_option maxRecDepth 100000 in
theorem kernel_Weight.calls (k : Nat) (a0 : Int) (a1 : Int) (r : Int) (w : World) (h : kernel_Weight.f k a0 a1 = some r) :
  Calls Try.prog 80 #[.int .i64 a0, .int .i64 a1] w fun e w' => e = .returned (.int .i64 r) ∧ Below w.heap.size w w' := by
 have HB := Aside0.mk (Below.refl w.heap.size w)
 have H : (if a1 ≤ (-131072) then (kernel_Weight.j0 k a0 a1 true) else (kernel_Weight.j0 k a0 a1 (decide (a1 ≥ 131072)))) = some r := h
 clear h
 have HC3 := Aside0.mk H
 clear H
 go_enter Try.func80, Try.ntmps80
 go_upto_region 1 with (fail)
 go_cut [11] (fun v11 wc => ∃ (kq : Nat) (x11_2 : Bool), v11 = .bool x11_2 ∧ Aside0 (kernel_Weight.j0 kq a0 a1 x11_2 = some r) ∧ Aside0 (kq ≤ k) ∧ Aside0 (Below w.heap.size w wc))
 case first =>
  have H := HC3.out
  clear HC3
  by_cases c4 : a1 ≤ (-131072)
  ·rw [if_pos c4] at H
   have E2 : decide (a1 ≤ (-131072)) = true := decide_eq_true c4
   clear c4
   (first | rw [E2] | (simp only [i64_w, i32_w]; rw [E2]) | skip)
   have H' := Aside0.mk H
   clear H
   go_wp2
   go_meet
   case rel => exact ⟨_, (true), (by first | rfl | (simp; done) | (simp [*]; done)), H', ⟨by first | omega | exact Nat.le_refl _⟩, ⟨by exact zb0 HB⟩⟩
  rw [if_neg c4] at H
  have E2 : decide (a1 ≤ (-131072)) = false := decide_eq_false c4
  clear c4
  (first | rw [E2] | (simp only [i64_w, i32_w]; rw [E2]) | skip)
  have H' := Aside0.mk H
  clear H
  go_wp2
  go_meet
  case rel => exact ⟨_, (decide (a1 ≥ 131072)), (by first | rfl | (simp; done) | (simp [*]; done)), H', ⟨by first | omega | exact Nat.le_refl _⟩, ⟨by exact zb0 HB⟩⟩
 case rest =>
  clear HC3
  try clear p2
  try clear c4
  try clear E2
  obtain ⟨kq, x11_2, rfl, HA, HJ2, HB⟩ := hcut
  cases kq with
  | zero => exact absurd HA.out (by simp [kernel_Weight.j0])
  | succ kj2 =>
   have H := HA.out
   clear HA
   simp only [kernel_Weight.j0] at H
   by_cases c5 : x11_2 = true
   ·subst c5
    rw [if_pos rfl] at H
    obtain rfl := Option.some.inj H
    go_wp2
    go_ret
    exact ⟨by first | rfl | (simp [errW_none, errW_some] <;> rfl) | (simp [*, errW_none, errW_some] <;> rfl), by exact zb0 HB⟩
   replace c5 := Bool.eq_false_iff.mpr c5
   subst c5
   rw [if_neg (show ¬ (false = true) by decide)] at H
   obtain ⟨E0, E1⟩ : ∃ j_ : Int, (mx a1 (wrap64 (-a1))) = j_ := ⟨_, rfl⟩
   replace H : (if a0 = 0 then (if a1 ≥ (-32768) then (if a1 < 32768 then (some 65536) else (some 0)) else (some 0)) else (if a0 = 1 then (some (mx 0 (wrap64 (65536 - (E0))))) else (if a0 = 3 then (if (E0) < 32768 then (some 65536) else (if (E0) = 32768 then (some 32768) else (some 0))) else (if a0 = 2 then (if (E0) < 65536 then ((kernel_cubic.f kj2 (E0) 3 (-5) 0 2 2).bind fun t282 => (some t282)) else ((kernel_cubic.f kj2 (E0) (-1) 5 (-8) 4 2).bind fun t283 => (some t283))) else (if a0 = 4 then (if (E0) < 65536 then ((kernel_cubic.f kj2 (E0) 21 (-36) 0 16 18).bind fun t284 => (some t284)) else ((kernel_cubic.f kj2 (E0) (-7) 36 (-60) 32 18).bind fun t285 => (some t285))) else (some 0)))))) = some r := by first | (rw [E1] at H; exact H) | (simp only [E1] at H ⊢; exact H)
   have hji6_ : (if a1 < (wrap64 (-a1)) then (wrap64 (-a1)) else a1) = E0 := E1
   by_cases c7 : a0 = 0
   ·rw [if_pos c7] at H
    have E5 : (a0 == 0) = true := beq_iff_eq.mpr c7
    have E6 : (a0 != 0) = false := bne_eq_false_iff_eq.mpr c7
    clear c7
    by_cases c8 : a1 ≥ (-32768)
    ·rw [if_pos c8] at H
     have E7 : decide ((-32768) ≤ a1) = true := decide_eq_true c8
     clear c8
     by_cases c9 : a1 < 32768
     ·rw [if_pos c9] at H
      have E8 : decide (a1 < 32768) = true := decide_eq_true c9
      clear c9
      obtain rfl := Option.some.inj H
      go_wp2
      go_ret
      exact ⟨by first | rfl | (simp [errW_none, errW_some] <;> rfl) | (simp only [← E1]; first | rfl | (simp [errW_none, errW_some] <;> rfl)) | (simp [*, errW_none, errW_some] <;> rfl), by exact zb0 HB⟩
     rw [if_neg c9] at H
     have E8 : decide (a1 < 32768) = false := decide_eq_false c9
     clear c9
     obtain rfl := Option.some.inj H
     go_wp2
     go_ret
     exact ⟨by first | rfl | (simp [errW_none, errW_some] <;> rfl) | (simp only [← E1]; first | rfl | (simp [errW_none, errW_some] <;> rfl)) | (simp [*, errW_none, errW_some] <;> rfl), by exact zb0 HB⟩
    rw [if_neg c8] at H
    have E7 : decide ((-32768) ≤ a1) = false := decide_eq_false c8
    clear c8
    obtain rfl := Option.some.inj H
    go_wp2
    go_ret
    exact ⟨by first | rfl | (simp [errW_none, errW_some] <;> rfl) | (simp only [← E1]; first | rfl | (simp [errW_none, errW_some] <;> rfl)) | (simp [*, errW_none, errW_some] <;> rfl), by exact zb0 HB⟩
   rw [if_neg c7] at H
   have E5 : (a0 == 0) = false := beq_eq_false_iff_ne.mpr c7
   have E6 : (a0 != 0) = true := bne_iff_ne.mpr c7
   by_cases c10 : a0 = 1
   ·rw [if_pos c10] at H
    have E9 : (a0 == 1) = true := beq_iff_eq.mpr c10
    have G0 : (a0 != 1) = false := bne_eq_false_iff_eq.mpr c10
    clear c10
    obtain ⟨E4, E3⟩ : ∃ j_ : Int, (mx 0 (wrap64 (65536 - (E0)))) = j_ := ⟨_, rfl⟩
    replace H : (some E4) = some r := by first | (rw [E3] at H; exact H) | (simp only [E3] at H ⊢; exact H)
    have hji11_ : (if 0 < (wrap64 (65536 - (E0))) then (wrap64 (65536 - (E0))) else 0) = E4 := E3
    obtain rfl := Option.some.inj H
    go_wp2
    go_ret
    exact ⟨by first | rfl | (simp [errW_none, errW_some] <;> rfl) | (simp only [← E1, ← E3]; first | rfl | (simp [errW_none, errW_some] <;> rfl)) | (simp [*, errW_none, errW_some] <;> rfl), by exact zb0 HB⟩
   rw [if_neg c10] at H
   have E9 : (a0 == 1) = false := beq_eq_false_iff_ne.mpr c10
   have G0 : (a0 != 1) = true := bne_iff_ne.mpr c10
   by_cases c12 : a0 = 3
   ·rw [if_pos c12] at H
    have G1 : (a0 == 3) = true := beq_iff_eq.mpr c12
    have G2 : (a0 != 3) = false := bne_eq_false_iff_eq.mpr c12
    clear c12
    by_cases c13 : (E0) < 32768
    ·rw [if_pos c13] at H
     have G3 : decide ((E0) < 32768) = true := decide_eq_true c13
     clear c13
     obtain rfl := Option.some.inj H
     go_wp2
     go_ret
     exact ⟨by first | rfl | (simp [errW_none, errW_some] <;> rfl) | (simp only [← E1]; first | rfl | (simp [errW_none, errW_some] <;> rfl)) | (simp [*, errW_none, errW_some] <;> rfl), by exact zb0 HB⟩
    rw [if_neg c13] at H
    have G3 : decide ((E0) < 32768) = false := decide_eq_false c13
    clear c13
    by_cases c14 : (E0) = 32768
    ·rw [if_pos c14] at H
     have G4 : ((E0) == 32768) = true := beq_iff_eq.mpr c14
     have G5 : ((E0) != 32768) = false := bne_eq_false_iff_eq.mpr c14
     clear c14
     obtain rfl := Option.some.inj H
     go_wp2
     go_ret
     exact ⟨by first | rfl | (simp [errW_none, errW_some] <;> rfl) | (simp only [← E1]; first | rfl | (simp [errW_none, errW_some] <;> rfl)) | (simp [*, errW_none, errW_some] <;> rfl), by exact zb0 HB⟩
    rw [if_neg c14] at H
    have G4 : ((E0) == 32768) = false := beq_eq_false_iff_ne.mpr c14
    have G5 : ((E0) != 32768) = true := bne_iff_ne.mpr c14
    obtain rfl := Option.some.inj H
    go_wp2
    go_ret
    exact ⟨by first | rfl | (simp [errW_none, errW_some] <;> rfl) | (simp only [← E1]; first | rfl | (simp [errW_none, errW_some] <;> rfl)) | (simp [*, errW_none, errW_some] <;> rfl), by exact zb0 HB⟩
   rw [if_neg c12] at H
   have G1 : (a0 == 3) = false := beq_eq_false_iff_ne.mpr c12
   have G2 : (a0 != 3) = true := bne_iff_ne.mpr c12
   by_cases c15 : a0 = 2
   ·rw [if_pos c15] at H
    have G6 : (a0 == 2) = true := beq_iff_eq.mpr c15
    have G7 : (a0 != 2) = false := bne_eq_false_iff_eq.mpr c15
    clear c15
    by_cases c16 : (E0) < 65536
    ·rw [if_pos c16] at H
     have G8 : decide ((E0) < 65536) = true := decide_eq_true c16
     clear c16
     replace H := Option.bind_eq_some_iff.mp H
     obtain ⟨t282, A170, H⟩ := H
     try dsimp only at H
     have A17 := Aside0.mk A170
     clear A170
     obtain rfl := Option.some.inj H
     go_wp2_with (first | ((with_reducible refine gate_callee (f := 89) rfl ?_); refine goesL_ (some 41) rfl rfl Try.func89 (by kernel_rfl) rfl #[.int .i64 E0, .int .i64 3, .int .i64 (-5), .int .i64 0, .int .i64 2, .int .i64 2] rfl (by (try simp only [List.map_toArray, List.map_cons, List.map_nil]); first | done | (simp only [E1]; rfl) | rfl | (simp only [List.length_drop, List.length_take]; rfl)) ?_; (with_reducible refine (kernel_cubic.calls kj2 E0 3 (-5) 0 2 2 t282 _ A17.out).mono ?_); rintro e w' ⟨rfl, ⟨nd, rfl⟩⟩; refine ⟨_, rfl, ?_⟩))
     go_ret
     exact ⟨by first | rfl | (simp [errW_none, errW_some] <;> rfl) | (simp only [← E1]; first | rfl | (simp [errW_none, errW_some] <;> rfl)) | (simp [*, errW_none, errW_some] <;> rfl), by exact zb0 HB⟩
    rw [if_neg c16] at H
    have G8 : decide ((E0) < 65536) = false := decide_eq_false c16
    clear c16
    replace H := Option.bind_eq_some_iff.mp H
    obtain ⟨t283, A180, H⟩ := H
    try dsimp only at H
    have A18 := Aside0.mk A180
    clear A180
    obtain rfl := Option.some.inj H
    go_wp2_with (first | ((with_reducible refine gate_callee (f := 89) rfl ?_); refine goesL_ (some 43) rfl rfl Try.func89 (by kernel_rfl) rfl #[.int .i64 E0, .int .i64 (-1), .int .i64 5, .int .i64 (-8), .int .i64 4, .int .i64 2] rfl (by (try simp only [List.map_toArray, List.map_cons, List.map_nil]); first | done | (simp only [E1]; rfl) | rfl | (simp only [List.length_drop, List.length_take]; rfl)) ?_; (with_reducible refine (kernel_cubic.calls kj2 E0 (-1) 5 (-8) 4 2 t283 _ A18.out).mono ?_); rintro e w' ⟨rfl, ⟨nd, rfl⟩⟩; refine ⟨_, rfl, ?_⟩))
    go_ret
    exact ⟨by first | rfl | (simp [errW_none, errW_some] <;> rfl) | (simp only [← E1]; first | rfl | (simp [errW_none, errW_some] <;> rfl)) | (simp [*, errW_none, errW_some] <;> rfl), by exact zb0 HB⟩
   rw [if_neg c15] at H
   have G6 : (a0 == 2) = false := beq_eq_false_iff_ne.mpr c15
   have G7 : (a0 != 2) = true := bne_iff_ne.mpr c15
   by_cases c19 : a0 = 4
   rotate_left
   ·rw [if_neg c19] at H
    have G9 : (a0 == 4) = false := beq_eq_false_iff_ne.mpr c19
    have V0 : (a0 != 4) = true := bne_iff_ne.mpr c19
    obtain rfl := Option.some.inj H
    go_wp2
    go_ret
    exact ⟨by first | rfl | (simp [errW_none, errW_some] <;> rfl) | (simp only [← E1]; first | rfl | (simp [errW_none, errW_some] <;> rfl)) | (simp [*, errW_none, errW_some] <;> rfl), by exact zb0 HB⟩

   rw [if_pos c19] at H
   have G9 : (a0 == 4) = true := beq_iff_eq.mpr c19
   have V0 : (a0 != 4) = false := bne_eq_false_iff_eq.mpr c19
   clear c19
   by_cases c20 : (E0) < 65536
   ·rw [if_pos c20] at H
    have V1 : decide ((E0) < 65536) = true := decide_eq_true c20
    clear c20
    replace H := Option.bind_eq_some_iff.mp H
    obtain ⟨t284, A210, H⟩ := H
    try dsimp only at H
    have A21 := Aside0.mk A210
    clear A210
    obtain rfl := Option.some.inj H
    go_wp2_with (first | ((with_reducible refine gate_callee (f := 89) rfl ?_); refine goesL_ (some 49) rfl rfl Try.func89 (by kernel_rfl) rfl #[.int .i64 E0, .int .i64 21, .int .i64 (-36), .int .i64 0, .int .i64 16, .int .i64 18] rfl (by (try simp only [List.map_toArray, List.map_cons, List.map_nil]); first | done | (simp only [E1]; rfl) | rfl | (simp only [List.length_drop, List.length_take]; rfl)) ?_; (with_reducible refine (kernel_cubic.calls kj2 E0 21 (-36) 0 16 18 t284 _ A21.out).mono ?_); rintro e w' ⟨rfl, ⟨nd, rfl⟩⟩; refine ⟨_, rfl, ?_⟩))
    go_ret
    exact ⟨by first | rfl | (simp [errW_none, errW_some] <;> rfl) | (simp only [← E1]; first | rfl | (simp [errW_none, errW_some] <;> rfl)) | (simp [*, errW_none, errW_some] <;> rfl), by exact zb0 HB⟩
   rw [if_neg c20] at H
   have V1 : decide ((E0) < 65536) = false := decide_eq_false c20
   clear c20
   replace H := Option.bind_eq_some_iff.mp H
   obtain ⟨t285, A220, H⟩ := H
   try dsimp only at H
   have A22 := Aside0.mk A220
   clear A220
   obtain rfl := Option.some.inj H
   go_wp2_with (first | ((with_reducible refine gate_callee (f := 89) rfl ?_); refine goesL_ (some 51) rfl rfl Try.func89 (by kernel_rfl) rfl #[.int .i64 E0, .int .i64 (-7), .int .i64 36, .int .i64 (-60), .int .i64 32, .int .i64 18] rfl (by (try simp only [List.map_toArray, List.map_cons, List.map_nil]); first | done | (simp only [E1]; rfl) | rfl | (simp only [List.length_drop, List.length_take]; rfl)) ?_; (with_reducible refine (kernel_cubic.calls kj2 E0 (-7) 36 (-60) 32 18 t285 _ A22.out).mono ?_); rintro e w' ⟨rfl, ⟨nd, rfl⟩⟩; refine ⟨_, rfl, ?_⟩))
   go_ret
   exact ⟨by first | rfl | (simp [errW_none, errW_some] <;> rfl) | (simp only [← E1]; first | rfl | (simp [errW_none, errW_some] <;> rfl)) | (simp [*, errW_none, errW_some] <;> rfl), by exact zb0 HB⟩
end Go.Proofs.Ytnfbabmceddciaa.G
