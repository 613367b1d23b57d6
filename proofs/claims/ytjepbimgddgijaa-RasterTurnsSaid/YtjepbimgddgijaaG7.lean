/- Contracts of functions of the program, each as it is called: what it computes (.f), that it computes no less with more rounds (.mono), and that a call returns just that (.calls). No conditions but those that each contract names. Written by a program of this session (wip/gx.py over the kit's print). -/
import Derived.Test.YtjepbimgddgijaaG0
import Derived.Test.YtjepbimgddgijaaG4
import Derived.Test.YtjepbimgddgijaaG6
namespace Go.Proofs.Ytjepbimgddgijaa.G
open Go.RowKit Go.Proofs.YtjepbimgddgijaaW.PrintWords Go.Proofs.YtjepbimgddgijaaW.PrintLast Go.Proofs.YtjepbimgddgijaaW.PrintMore
attribute [local go_sem] max2_int min2_int max_two min_two max_three min_three max_four min_four   -- for this text's walks alone
set_option linter.unusedVariables false
set_option linter.unusedSimpArgs false


/-! ### raster_Flip_3: function 53 -/
def raster_Flip_3.f (a0 : Int) (a1 : Int) (a2_0 : Int) (a2_1 : Int) (l2_2 : List (S26)) : Option (Int × Int × Int × Int) := (raster_get.f a2_0 a2_1 l2_2 a1 a0).bind fun bt295 => (some (bt295.1, bt295.2.1, bt295.2.2.1, bt295.2.2.2))
set_option maxHeartbeats 8000000 in
set_option maxRecDepth 100000 in
theorem raster_Flip_3.calls (a0 : Int) (a1 : Int) (gc2_0 : Nat) (a2_0 : Int) (a2_1 : Int) (A2_2 : Option Addr) (c2_2 : Nat) (l2_2 : List (S26)) (r1 : Int) (r2 : Int) (r3 : Int) (r4 : Int) (w : World) (hp2_0 : w.heap[gc2_0]? = some (.cells #[.int .i64 a2_0, .int .i64 a2_1, .slice A2_2 l2_2.length c2_2] 24 (0, 0))) (hr2_2 : Kd.C k26 w A2_2 l2_2.length l2_2) (hc2_2 : l2_2.length ≤ c2_2) (h : raster_Flip_3.f a0 a1 a2_0 a2_1 l2_2 = some (r1, r2, r3, r4)) :
  Calls Try.prog 53 #[.int .i64 a0, .int .i64 a1, .pointer (some ⟨gc2_0, 0, none⟩)] w fun e w' => e = .returned (.agg #[.int .i64 r1, .int .i64 r2, .int .i64 r3, .int .i64 r4]) ∧ Below w.heap.size w w' := by
 have hu26 := Try.underlying26
 have hu24 := Try.underlying24
 have HR2_2 := Aside0.mk hr2_2
 have HC2_2 := Aside0.mk hc2_2
 clear hr2_2 hc2_2
 have BK293 := Aside0.mk hp2_0
 have GL293 := Aside0.mk (show gc2_0 < w.heap.size from blk_lt hp2_0)
 clear hp2_0
 have HB := Aside0.mk (Below.refl w.heap.size w)
 have H : ((raster_get.f a2_0 a2_1 l2_2 a1 a0).bind fun bt295 => (some (bt295.1, bt295.2.1, bt295.2.2.1, bt295.2.2.2))) = some (r1, r2, r3, r4) := h
 clear h
 replace H := Option.bind_eq_some_iff.mp H
 obtain ⟨⟨t295, t296, t297, t298⟩, A40, H⟩ := H
 replace H : (some (t295, t296, t297, t298)) = some (r1, r2, r3, r4) := H
 have A4 := Aside0.mk A40
 clear A40
 simp only [Option.some.injEq, Prod.mk.injEq] at H
 obtain ⟨rfl, rfl, rfl, rfl⟩ := H
 go_enter Try.func53, Try.ntmps53
 go_wp2_with (first | ((with_reducible refine gate_dst (N := 5) rfl ?_); refine box_event ?hg (N := 5) ?hd (cs := #[.int .i64 0, .int .i64 0, .int .i64 0, .int .i64 0]) (t := 26) ?hr ?_; (case hd => rfl); (case hg => rfl); (case hr => first | (go_simp; done) | (go_simp; rfl)); intro gb294 hg w5 hbox hb; have GW294 := zg HB hg; have GE294 := zg HB hg; have NB293_294 := zn BK293 hg; have NB294_293 := zn' BK293 hg; have n0_ := Aside0.mk (hbox); replace BK293 := zk BK293 hb; replace HB := zb HB hb; have BK294 := n0_; clear n0_; clear hb hbox hg; have hnb6 := NB293_294.out; have hnc6 := NB294_293.out; obtain ⟨hcz7_0, hcz7_1, hcz7_2, hfz7_0, hfz7_1, hfz7_2⟩ := zq3 BK293) | ((with_reducible refine gate_callee (f := 43) rfl ?_); refine goesL_ (some 9) rfl rfl Try.func43 (by kernel_rfl) rfl #[.agg #[.int .i64 a2_0, .int .i64 a2_1, .slice A2_2 l2_2.length c2_2], .int .i64 a1, .int .i64 a0] rfl (by (try simp only [List.map_toArray, List.map_cons, List.map_nil]); first | done | rfl | (simp only [List.length_drop, List.length_take]; rfl)) ?_; (with_reducible refine (raster_get.calls a2_0 a2_1 _ _ l2_2 a1 a0 t295 t296 t297 t298 _ ?side1 ?side2 A4.out).mono ?_); (case side1 => repeat (first | exact (Kd.C_below HR2_2.out HB.out) | (with_reducible refine Kd.C_alloc ?_ _) | (with_reducible refine Kd.C_drewN ?_ _) | (with_reducible refine Kd.C_drew ?_))); (case side2 => exact HC2_2.out); rintro e w8 ⟨rfl, hb⟩; refine ⟨_, rfl, ?_⟩; replace BK293 := zk BK293 hb; replace BK294 := zk BK294 hb; replace HB := zb HB hb; (try clear hb); (try clear hb2); (try clear hk); (try clear hi); obtain ⟨hcz9_0, hcz9_1, hcz9_2, hcz9_3, hfz9_0, hfz9_1, hfz9_2, hfz9_3⟩ := zq4 BK294))
 refine bodyPost_ret (results_cell_row rfl _ _ gb294 26 #[.int .i64 t295, .int .i64 t296, .int .i64 t297, .int .i64 t298] (0, 0) _ rfl (by exact zp BK294 rfl) Try.underlying26 rfl (by kernel_rfl)) rfl ?_
 exact ⟨by first | rfl | (simp [errW_none, errW_some] <;> rfl) | (simp [*, errW_none, errW_some] <;> rfl), by exact zbo HB GE294⟩

/-! ### raster_Flip_4: function 54 -/
def raster_Flip_4.f (a0 : Int) (a1 : Int) (a2_0 : Int) (a2_1 : Int) (l2_2 : List (S26)) : Option (Int × Int × Int × Int) := (raster_get.f a2_0 a2_1 l2_2 (wrap64 ((wrap64 (a2_0 - 1)) - a0)) (wrap64 ((wrap64 (a2_1 - 1)) - a1))).bind fun bt301 => (some (bt301.1, bt301.2.1, bt301.2.2.1, bt301.2.2.2))
set_option maxHeartbeats 8000000 in
set_option maxRecDepth 100000 in
theorem raster_Flip_4.calls (a0 : Int) (a1 : Int) (gc2_0 : Nat) (a2_0 : Int) (a2_1 : Int) (A2_2 : Option Addr) (c2_2 : Nat) (l2_2 : List (S26)) (r1 : Int) (r2 : Int) (r3 : Int) (r4 : Int) (w : World) (hp2_0 : w.heap[gc2_0]? = some (.cells #[.int .i64 a2_0, .int .i64 a2_1, .slice A2_2 l2_2.length c2_2] 24 (0, 0))) (hr2_2 : Kd.C k26 w A2_2 l2_2.length l2_2) (hc2_2 : l2_2.length ≤ c2_2) (h : raster_Flip_4.f a0 a1 a2_0 a2_1 l2_2 = some (r1, r2, r3, r4)) :
  Calls Try.prog 54 #[.int .i64 a0, .int .i64 a1, .pointer (some ⟨gc2_0, 0, none⟩)] w fun e w' => e = .returned (.agg #[.int .i64 r1, .int .i64 r2, .int .i64 r3, .int .i64 r4]) ∧ Below w.heap.size w w' := by
 have hu26 := Try.underlying26
 have hu24 := Try.underlying24
 have HR2_2 := Aside0.mk hr2_2
 have HC2_2 := Aside0.mk hc2_2
 clear hr2_2 hc2_2
 have BK299 := Aside0.mk hp2_0
 have GL299 := Aside0.mk (show gc2_0 < w.heap.size from blk_lt hp2_0)
 clear hp2_0
 have HB := Aside0.mk (Below.refl w.heap.size w)
 have H : ((raster_get.f a2_0 a2_1 l2_2 (wrap64 ((wrap64 (a2_0 - 1)) - a0)) (wrap64 ((wrap64 (a2_1 - 1)) - a1))).bind fun bt301 => (some (bt301.1, bt301.2.1, bt301.2.2.1, bt301.2.2.2))) = some (r1, r2, r3, r4) := h
 clear h
 replace H := Option.bind_eq_some_iff.mp H
 obtain ⟨⟨t301, t302, t303, t304⟩, A40, H⟩ := H
 replace H : (some (t301, t302, t303, t304)) = some (r1, r2, r3, r4) := H
 have A4 := Aside0.mk A40
 clear A40
 simp only [Option.some.injEq, Prod.mk.injEq] at H
 obtain ⟨rfl, rfl, rfl, rfl⟩ := H
 go_enter Try.func54, Try.ntmps54
 go_wp2_with (first | ((with_reducible refine gate_dst (N := 5) rfl ?_); refine box_event ?hg (N := 5) ?hd (cs := #[.int .i64 0, .int .i64 0, .int .i64 0, .int .i64 0]) (t := 26) ?hr ?_; (case hd => rfl); (case hg => rfl); (case hr => first | (go_simp; done) | (go_simp; rfl)); intro gb300 hg w5 hbox hb; have GW300 := zg HB hg; have GE300 := zg HB hg; have NB299_300 := zn BK299 hg; have NB300_299 := zn' BK299 hg; have n0_ := Aside0.mk (hbox); replace BK299 := zk BK299 hb; replace HB := zb HB hb; have BK300 := n0_; clear n0_; clear hb hbox hg; have hnb6 := NB299_300.out; have hnc6 := NB300_299.out; obtain ⟨hcz7_0, hcz7_1, hcz7_2, hfz7_0, hfz7_1, hfz7_2⟩ := zq3 BK299) | ((with_reducible refine gate_callee (f := 43) rfl ?_); refine goesL_ (some 17) rfl rfl Try.func43 (by kernel_rfl) rfl #[.agg #[.int .i64 a2_0, .int .i64 a2_1, .slice A2_2 l2_2.length c2_2], .int .i64 (wrap64 ((wrap64 (a2_0 - 1)) - a0)), .int .i64 (wrap64 ((wrap64 (a2_1 - 1)) - a1))] rfl (by (try simp only [List.map_toArray, List.map_cons, List.map_nil]); first | done | rfl | (simp only [List.length_drop, List.length_take]; rfl)) ?_; (with_reducible refine (raster_get.calls a2_0 a2_1 _ _ l2_2 (wrap64 ((wrap64 (a2_0 - 1)) - a0)) (wrap64 ((wrap64 (a2_1 - 1)) - a1)) t301 t302 t303 t304 _ ?side1 ?side2 A4.out).mono ?_); (case side1 => repeat (first | exact (Kd.C_below HR2_2.out HB.out) | (with_reducible refine Kd.C_alloc ?_ _) | (with_reducible refine Kd.C_drewN ?_ _) | (with_reducible refine Kd.C_drew ?_))); (case side2 => exact HC2_2.out); rintro e w8 ⟨rfl, hb⟩; refine ⟨_, rfl, ?_⟩; replace BK299 := zk BK299 hb; replace BK300 := zk BK300 hb; replace HB := zb HB hb; (try clear hb); (try clear hb2); (try clear hk); (try clear hi); obtain ⟨hcz9_0, hcz9_1, hcz9_2, hcz9_3, hfz9_0, hfz9_1, hfz9_2, hfz9_3⟩ := zq4 BK300))
 refine bodyPost_ret (results_cell_row rfl _ _ gb300 26 #[.int .i64 t301, .int .i64 t302, .int .i64 t303, .int .i64 t304] (0, 0) _ rfl (by exact zp BK300 rfl) Try.underlying26 rfl (by kernel_rfl)) rfl ?_
 exact ⟨by first | rfl | (simp [errW_none, errW_some] <;> rfl) | (simp [*, errW_none, errW_some] <;> rfl), by exact zbo HB GE300⟩

/-! ### raster_fill__raster_Flip_1: function 40 -/
mutual
def raster_fill__raster_Flip_1.l0 : Nat → Int → Int → Int → Int → Int → List (S26) → Int → Int → List (S26) → Option (Int × Int × (List (S26)))
 | 0, _, _, _, _, _, _, _, _, _ => none
 | k + 1, x0, x17, x18, x306000, x306001, x306002, x311000, x311001, x311002 => if x18 < x17 then (raster_fill__raster_Flip_1.l1 k x0 x18 x17 x18 x0 0 x306000 x306001 x306002 x311000 x311001 x311002) else (some (x311000, x311001, x311002))
def raster_fill__raster_Flip_1.l1 : Nat → Int → Int → Int → Int → Int → Int → Int → Int → List (S26) → Int → Int → List (S26) → Option (Int × Int × (List (S26)))
 | 0, _, _, _, _, _, _, _, _, _, _, _, _ => none
 | k + 1, x0, x8, x17, x18, x21, x22, x306000, x306001, x306002, x311000, x311001, x311002 => if x22 < x21 then ((raster_Flip_1.f x22 x8 x306000 x306001 x306002).bind fun bt311 => (if x311002.length < 4398046511104 then (raster_fill__raster_Flip_1.l1 k x0 x8 x17 x18 x21 (wrap64 (x22 + 1)) x306000 x306001 x306002 x311000 x311001 (x311002 ++ [(⟨bt311.1, bt311.2.1, bt311.2.2.1, bt311.2.2.2⟩ : S26)])) else (none))) else (raster_fill__raster_Flip_1.l0 k x0 x17 (wrap64 (x18 + 1)) x306000 x306001 x306002 x311000 x311001 x311002)
end
def raster_fill__raster_Flip_1.f (k : Nat) (a0 : Int) (a1 : Int) (a2_0 : Int) (a2_1 : Int) (l2_2 : List (S26)) : Option (Int × Int × (List (S26))) := if 0 ≤ (wrap64 (a0 * a1)) then (if (wrap64 (a0 * a1) : Int).toNat ≤ 8796093022208 then (raster_fill__raster_Flip_1.l0 k a0 a1 0 a2_0 a2_1 l2_2 a0 a1 (([] : List (S26)))) else (none)) else (none)
theorem raster_fill__raster_Flip_1.mono_l : ∀ k, (∀ y0 y1 y2 y3 y4 y5 y6 y7 y8, LeO (raster_fill__raster_Flip_1.l0 k y0 y1 y2 y3 y4 y5 y6 y7 y8) (raster_fill__raster_Flip_1.l0 (k + 1) y0 y1 y2 y3 y4 y5 y6 y7 y8)) ∧ (∀ y0 y1 y2 y3 y4 y5 y6 y7 y8 y9 y10 y11, LeO (raster_fill__raster_Flip_1.l1 k y0 y1 y2 y3 y4 y5 y6 y7 y8 y9 y10 y11) (raster_fill__raster_Flip_1.l1 (k + 1) y0 y1 y2 y3 y4 y5 y6 y7 y8 y9 y10 y11))
 | 0 => ⟨fun _ _ _ _ _ _ _ _ _ r h => by simp [raster_fill__raster_Flip_1.l0] at h, fun _ _ _ _ _ _ _ _ _ _ _ _ r h => by simp [raster_fill__raster_Flip_1.l1] at h⟩
 | k + 1 => by
  obtain ⟨ih0, ih1⟩ := raster_fill__raster_Flip_1.mono_l k
  refine ⟨?_, ?_⟩
  ·intro y0 y1 y2 y3 y4 y5 y6 y7 y8
   unfold raster_fill__raster_Flip_1.l0
   repeat' first
   | (with_reducible exact ih0 _ _ _ _ _ _ _ _ _)
   | (with_reducible exact ih1 _ _ _ _ _ _ _ _ _ _ _ _)
   | (with_reducible exact LeO.refl _)
   | (with_reducible exact LeO.none _)
   | (with_reducible refine LeO.ite ?_ ?_)
   | (with_reducible refine LeO.bind ?_ (fun _ => ?_))
   | exact ih0 _ _ _ _ _ _ _ _ _
   | exact ih1 _ _ _ _ _ _ _ _ _ _ _ _
   | exact LeO.none _
   | refine LeO.ite ?_ ?_
   | refine LeO.bind ?_ (fun _ => ?_)
  ·intro y0 y1 y2 y3 y4 y5 y6 y7 y8 y9 y10 y11
   unfold raster_fill__raster_Flip_1.l1
   repeat' first
   | (with_reducible exact ih0 _ _ _ _ _ _ _ _ _)
   | (with_reducible exact ih1 _ _ _ _ _ _ _ _ _ _ _ _)
   | (with_reducible exact LeO.refl _)
   | (with_reducible exact LeO.none _)
   | (with_reducible refine LeO.ite ?_ ?_)
   | (with_reducible refine LeO.bind ?_ (fun _ => ?_))
   | exact ih0 _ _ _ _ _ _ _ _ _
   | exact ih1 _ _ _ _ _ _ _ _ _ _ _ _
   | exact LeO.none _
   | refine LeO.ite ?_ ?_
   | refine LeO.bind ?_ (fun _ => ?_)
theorem raster_fill__raster_Flip_1.mono : ∀ a0 a1 a2 a3 a4 k, LeO (raster_fill__raster_Flip_1.f k a0 a1 a2 a3 a4) (raster_fill__raster_Flip_1.f (k + 1) a0 a1 a2 a3 a4) := by
 intro a0 a1 a2 a3 a4 k
 obtain ⟨ih0, ih1⟩ := raster_fill__raster_Flip_1.mono_l k
 unfold raster_fill__raster_Flip_1.f
 repeat' first
   | (with_reducible exact ih0 _ _ _ _ _ _ _ _ _)
   | (with_reducible exact ih1 _ _ _ _ _ _ _ _ _ _ _ _)
   | (with_reducible exact LeO.refl _)
   | (with_reducible exact LeO.none _)
   | (with_reducible refine LeO.ite ?_ ?_)
   | (with_reducible refine LeO.bind ?_ (fun _ => ?_))
   | exact ih0 _ _ _ _ _ _ _ _ _
   | exact ih1 _ _ _ _ _ _ _ _ _ _ _ _
   | exact LeO.none _
   | refine LeO.ite ?_ ?_
   | refine LeO.bind ?_ (fun _ => ?_)
def raster_fill__raster_Flip_1.T8 : Bool × List (List Nat × List Nat) := (true, [([], []), ([0], [0]), ([], []), ([], []), ([], []), ([2, 3, 4], [2, 3, 4]), ([5], [5]), ([1, 6, 5], [1, 6]), ([0, 1, 2, 3, 4, 5, 6, 7], []), ([8, 7, 7, 0, 1, 2, 3, 4, 5, 6, 7], [7, 8])])
def raster_fill__raster_Flip_1.B8 : List Nat := [0, 1, 0, 0, 0, 28, 60, 127, 255, 511]
theorem raster_fill__raster_Flip_1.tab8 : rtab .any (opsOf Try.f40 8) = raster_fill__raster_Flip_1.T8 := by kernel_rfl
theorem raster_fill__raster_Flip_1.bits8 : waitsOk raster_fill__raster_Flip_1.T8.2 raster_fill__raster_Flip_1.B8 = true := by kernel_rfl
set_option maxHeartbeats 8000000 in
set_option maxRecDepth 100000 in
theorem raster_fill__raster_Flip_1.calls (k : Nat) (a0 : Int) (a1 : Int) (gc2_0 : Nat) (a2_0 : Int) (a2_1 : Int) (A2_2 : Option Addr) (c2_2 : Nat) (l2_2 : List (S26)) (r1 : Int) (r2 : Int) (r3 : List (S26)) (w : World) (hp2_0 : w.heap[gc2_0]? = some (.cells #[.int .i64 a2_0, .int .i64 a2_1, .slice A2_2 l2_2.length c2_2] 24 (0, 0))) (hr2_2 : Kd.C k26 w A2_2 l2_2.length l2_2) (hc2_2 : l2_2.length ≤ c2_2) (h : raster_fill__raster_Flip_1.f k a0 a1 a2_0 a2_1 l2_2 = some (r1, r2, r3)) :
  Calls Try.prog 40 #[.int .i64 a0, .int .i64 a1, .func (.func 51) #[] #[.pointer (some ⟨gc2_0, 0, none⟩)]] w fun e w' => ∃ v2_ : Value, e = .returned (.agg #[.int .i64 r1, .int .i64 r2, v2_]) ∧ Kd.R k26 26 w' w.heap.size (fun _ => True) v2_ r3 ∧ Below w.heap.size w w' := by
 have hu24 := Try.underlying24
 have HR2_2 := Aside0.mk hr2_2
 have HC2_2 := Aside0.mk hc2_2
 clear hr2_2 hc2_2
 have BK305 := Aside0.mk hp2_0
 have GL305 := Aside0.mk (show gc2_0 < w.heap.size from blk_lt hp2_0)
 clear hp2_0
 have HB := Aside0.mk (Below.refl w.heap.size w)
 have H : (if 0 ≤ (wrap64 (a0 * a1)) then (if (wrap64 (a0 * a1) : Int).toNat ≤ 8796093022208 then (raster_fill__raster_Flip_1.l0 k a0 a1 0 a2_0 a2_1 l2_2 a0 a1 (([] : List (S26)))) else (none)) else (none)) = some (r1, r2, r3) := h
 clear h
 obtain ⟨ji4, hji4⟩ : ∃ j_ : Int, (wrap64 (a0 * a1)) = j_ := ⟨_, rfl⟩
 replace H : (if 0 ≤ (ji4) then (if (ji4 : Int).toNat ≤ 8796093022208 then (raster_fill__raster_Flip_1.l0 k a0 a1 0 a2_0 a2_1 l2_2 a0 a1 (([] : List (S26)))) else (none)) else (none)) = some (r1, r2, r3) := by first | (rw [hji4] at H; exact H) | (simp only [hji4] at H ⊢; exact H)
 have hji4w : (IntKind.i64.wrap (a0 * a1)) = ji4 := (i64_w _).trans hji4
 by_cases c5 : 0 ≤ (ji4)
 ·rw [if_pos c5] at H
  have c5b0 := eq_true c5
  have c5b1 : decide (0 ≤ (ji4)) = true := decide_eq_true c5
  clear c5
  by_cases c6 : (ji4 : Int).toNat ≤ 8796093022208
  ·rw [if_pos c6] at H
   have c6b0 := eq_true c6
   have c6b1 : decide ((ji4 : Int).toNat ≤ 8796093022208) = true := decide_eq_true c6
   clear c6
   obtain ⟨y307, hy307⟩ : ∃ y_ : List (S26), y_ = (([] : List (S26))) := ⟨_, rfl⟩
   replace H : (raster_fill__raster_Flip_1.l0 k a0 a1 0 a2_0 a2_1 l2_2 a0 a1 y307) = some (r1, r2, r3) := by first | (rw [hy307]; with_reducible exact H) | (have H2_ := (Option.bind_some _ _).symm.trans H; rw [hy307]; with_reducible exact H2_) | (have H2_ := (Option.bind_some _ _).symm.trans H; with_reducible exact H2_) | with_reducible exact H | (rw [hy307]; exact H) | exact H
   have Ny307 := Aside0.mk hy307
   clear hy307
   have H' := Aside0.mk H
   clear H
   go_enter Try.func40, Try.ntmps40
   go_wp2_with (first | ((with_reducible refine gate_dst (N := 6) rfl ?_); refine box_event ?hg (N := 6) ?hd (cs := #[.int .i64 0, .int .i64 0, .slice none 0 0]) (t := 24) ?hr ?_; (case hd => rfl); (case hg => rfl); (case hr => first | (go_simp; done) | (go_simp; rfl)); intro gb306 hg w7 hbox hb; have GW306 := zg HB hg; have GE306 := zg HB hg; have NB305_306 := zn BK305 hg; have NB306_305 := zn' BK305 hg; have n0_ := Aside0.mk (hbox); replace BK305 := zk BK305 hb; replace HB := zb HB hb; have BK306 := n0_; clear n0_; clear hb hbox hg) | ((with_reducible refine gate_dst (N := 15) rfl ?_); refine Kd.R_make0 k26 _ 26 rfl (N := 15) rfl 22 _ _ rfl ji4 rfl rfl Try.underlying22 (.agg #[(.int .i64 0), (.int .i64 0), (.int .i64 0), (.int .i64 0)]) 32 info26 rfl (by decide) (by omega) z26 (ok := fun _ => True) (okp := fun _ => True) (k26_mkM _ _ _ z26 ) (fun _ hk => hk) trivial (of_decide_eq_true (by first | (with_reducible assumption) | assumption)) (Nat.le_trans (Nat.mul_le_mul_right _ (of_decide_eq_true (by first | (with_reducible assumption) | assumption) : ji4.toNat ≤ 8796093022208)) (by omega)) (Below.refl _ _) (Nat.le_refl _) ?_; intro v308 w8 ho9 hb hg_ hnew_; clear hg_ hnew_; (first | rw [← Ny307.out] at ho9 | (simp only [Int.reduceToNat] at ho9; rw [← Ny307.out] at ho9)); have HO309 := zl HB ho9; replace BK305 := zk BK305 hb; replace BK306 := zk BK306 hb; replace HB := zb HB hb; clear hb ho9; obtain ⟨Ao10, co10, eo10⟩ := Kd.R_slice HO309.out; subst eo10) | ((with_reducible refine gate_dst (N := 7) rfl ?_); refine box_event ?hg (N := 7) ?hd (cs := #[.int .i64 0, .int .i64 0, .slice none 0 0]) (t := 24) ?hr ?_; (case hd => rfl); (case hg => rfl); (case hr => first | (go_simp; done) | (go_simp; rfl)); intro gb310 hg w11 hbox hb; have GW310 := zg HB hg; have GE310 := zg HB hg; have NB305_310 := zn BK305 hg; have NB310_305 := zn' BK305 hg; have NB306_310 := zn BK306 hg; have NB310_306 := zn' BK306 hg; have n0_ := Aside0.mk (hbox); replace HO309 := zr HO309 hb; replace BK305 := zk BK305 hb; replace BK306 := zk BK306 hb; replace HB := zb HB hb; have BK310 := n0_; clear n0_; clear hb hbox hg; have hnb12 := NB310_305.out; have hnc12 := NB305_310.out; have hnb13 := NB310_306.out; have hnc13 := NB306_310.out; obtain ⟨hcz14_0, hcz14_1, hcz14_2, hfz14_0, hfz14_1, hfz14_2⟩ := zq3 BK310))
   (try simp only [Act.put, sA, sB, sC])
   go_loopg [18] k (fun kq v18 w' => ∃ (x18_1 : Int) (x311002_1 : List (S26)) (u311002 : Value), v18 = .int .i64 x18_1 ∧ Aside0 (raster_fill__raster_Flip_1.l0 kq a0 a1 x18_1 a2_0 a2_1 l2_2 a0 a1 x311002_1 = some (r1, r2, r3)) ∧ Aside0 (kq ≤ k) ∧ Aside0 (Kd.R k26 26 w' w.heap.size (fun _ => True) u311002 x311002_1) ∧ Aside0 (w'.heap[gc2_0]? = some (.cells #[.int .i64 a2_0, .int .i64 a2_1, (.slice A2_2 l2_2.length c2_2)] 24 (0, 0))) ∧ Aside0 (w'.heap[gb306]? = some (.cells #[.int .i64 0, .int .i64 0, (.slice none 0 0)] 24 (0, 0))) ∧ Aside0 (w'.heap[gb310]? = some (.cells #[.int .i64 a0, .int .i64 a1, u311002] 24 (0, 0))) ∧ Aside0 (Below w.heap.size w w'))
   case atStart => exact ⟨(0), (y307), (.slice Ao10 y307.length co10), (by first | rfl | (simp; done) | (simp [*]; done)), H', ⟨Nat.le_refl _⟩, ⟨by exact zro HO309 BK310 (by decide)⟩, ⟨by exact zf BK305 NB305_310⟩, ⟨by exact zf BK306 NB306_310⟩, ⟨by exact zp BK310 rfl⟩, ⟨by exact zbo HB GE310⟩⟩
   case round =>
    clear H'
    try clear c1
    try clear c2
    try clear p2
    try clear q3
    try clear c4
    try clear c5
    try clear c5b0
    try clear c5b1
    try clear c6
    try clear c6b0
    try clear c6b1
    try clear p6
    try clear c12
    try clear c13
    try clear hcz14_0
    try clear hcz14_1
    try clear hcz14_2
    try clear hfz14_0
    try clear hfz14_1
    try clear hfz14_2
    obtain ⟨x18_1, x311002_1, u311002, rfl, HA, HK1, HO_311002, BK305, BK306, BK310, HB⟩ := hrel
    cases gk with
    | zero => exact absurd HA.out (by simp [raster_fill__raster_Flip_1.l0])
    | succ k1 =>
     have H := HA.out
     clear HA
     simp only [raster_fill__raster_Flip_1.l0] at H
     by_cases c15 : x18_1 < a1
     ·rw [if_pos c15] at H
      have c15b0 : decide (x18_1 < a1) = true := decide_eq_true c15
      clear c15
      have H' := Aside0.mk H
      clear H
      go_wp2
      go_loopg [22] k1 (fun kq v22 w' => ∃ (x22_2 : Int) (x311002_2 : List (S26)) (u311002 : Value), v22 = .int .i64 x22_2 ∧ Aside0 (raster_fill__raster_Flip_1.l1 kq a0 x18_1 a1 x18_1 a0 x22_2 a2_0 a2_1 l2_2 a0 a1 x311002_2 = some (r1, r2, r3)) ∧ Aside0 (kq ≤ k1) ∧ Aside0 (Kd.R k26 26 w' w.heap.size (fun _ => True) u311002 x311002_2) ∧ Aside0 (w'.heap[gc2_0]? = some (.cells #[.int .i64 a2_0, .int .i64 a2_1, (.slice A2_2 l2_2.length c2_2)] 24 (0, 0))) ∧ Aside0 (w'.heap[gb306]? = some (.cells #[.int .i64 0, .int .i64 0, (.slice none 0 0)] 24 (0, 0))) ∧ Aside0 (w'.heap[gb310]? = some (.cells #[.int .i64 a0, .int .i64 a1, u311002] 24 (0, 0))) ∧ Aside0 (Below w.heap.size w w'))
      case atStart => exact ⟨(0), (x311002_1), (u311002), (by first | rfl | (simp; done) | (simp [*]; done)), H', ⟨Nat.le_refl _⟩, ⟨by exact zr0 HO_311002⟩, ⟨by exact zk0 BK305⟩, ⟨by exact zk0 BK306⟩, ⟨by exact zk0 BK310⟩, ⟨by exact zb0 HB⟩⟩
      case round =>
       clear H'
       try clear c1
       try clear c2
       try clear p2
       try clear q3
       try clear c4
       try clear c5
       try clear c5b0
       try clear c5b1
       try clear c6
       try clear c6b0
       try clear c6b1
       try clear p6
       try clear c12
       try clear c13
       try clear c15
       try clear c15b0
       try clear hcz14_0
       try clear hcz14_1
       try clear hcz14_2
       try clear hfz14_0
       try clear hfz14_1
       try clear hfz14_2
       try clear p2
       try clear p6
       try clear q3
       obtain ⟨x22_2, x311002_2, u311002, rfl, HA, HK2, HO_311002, BK305, BK306, BK310, HB⟩ := hrel
       cases gk with
       | zero => exact absurd HA.out (by simp [raster_fill__raster_Flip_1.l1])
       | succ k2 =>
        have H := HA.out
        clear HA
        simp only [raster_fill__raster_Flip_1.l1] at H
        by_cases c16 : x22_2 < a0
        ·rw [if_pos c16] at H
         have c16b0 : decide (x22_2 < a0) = true := decide_eq_true c16
         clear c16
         replace H := Option.bind_eq_some_iff.mp H
         obtain ⟨⟨t311, t312, t313, t314⟩, A170, H⟩ := H
         replace H : (if x311002_2.length < 4398046511104 then (raster_fill__raster_Flip_1.l1 k2 a0 x18_1 a1 x18_1 a0 (wrap64 (x22_2 + 1)) a2_0 a2_1 l2_2 a0 a1 (x311002_2 ++ [(⟨t311, t312, t313, t314⟩ : S26)])) else (none)) = some (r1, r2, r3) := H
         have A17 := Aside0.mk A170
         clear A170
         by_cases c18 : x311002_2.length < 4398046511104
         ·rw [if_pos c18] at H
          have LMc18 := Aside0.mk c18
          clear c18
          obtain ⟨y315, hy315⟩ : ∃ y_ : List (S26), y_ = (x311002_2 ++ [(⟨t311, t312, t313, t314⟩ : S26)]) := ⟨_, rfl⟩
          replace H : (raster_fill__raster_Flip_1.l1 k2 a0 x18_1 a1 x18_1 a0 (wrap64 (x22_2 + 1)) a2_0 a2_1 l2_2 a0 a1 y315) = some (r1, r2, r3) := by first | (rw [hy315]; with_reducible exact H) | (have H2_ := (Option.bind_some _ _).symm.trans H; rw [hy315]; with_reducible exact H2_) | (have H2_ := (Option.bind_some _ _).symm.trans H; with_reducible exact H2_) | with_reducible exact H | (rw [hy315]; exact H) | exact H
          have Ny315 := Aside0.mk hy315
          clear hy315
          have H' := Aside0.mk H
          clear H
          try go_wp2
          replace HO_311002 := zrd HO_311002
          replace BK305 := zkd BK305
          replace BK306 := zkd BK306
          replace BK310 := zkd BK310
          replace HB := zbd HB
          refine start_ (n := 10) (S := fun w' => w'.cell? ⟨gb310, 0, none⟩ = some (.int .i64 a0) ∧ w'.cell? ⟨gb310, 1, none⟩ = some (.int .i64 a1) ∧ w'.cell? ⟨gb310, 2, none⟩ = some (u311002)) (ds := [9]) (bs 10 0) (by kernel_rfl) rfl rfl ⟨(blk_cell BK310.out 0).trans rfl, (blk_cell BK310.out 1).trans rfl, (blk_cell BK310.out 2).trans rfl⟩ (fun hHeld => ?_); refine with_tabW raster_fill__raster_Flip_1.tab8 raster_fill__raster_Flip_1.bits8 (fun HT_ HW_ => ?_)
          generalize wr.drew = w19 at HO_311002 BK305 BK306 BK310 HB hHeld ⊢
          refine pure_ (i := 0) (N := some 25) (v := ?_) (a' := ?_) (bs 10 1) rfl rfl (any_of HT_.out (by kernel_rfl)) (fun _ _ _ h => h) (Or.inl ⟨by rfl, ?_⟩) ?_ ?_
          rotate_left
          ·intro w'
           go_simp
           with_reducible rfl
          rotate_left
          ·simp only [Act.put, sA, sB, sC, i64_w, i32_w]
           rfl
          refine pure_ (i := 2) (N := some 27) (v := ?_) (a' := ?_) (bs 10 5) rfl rfl (any_of HT_.out (by kernel_rfl)) (fun _ _ _ h => h) (Or.inl ⟨by rfl, ?_⟩) ?_ ?_
          rotate_left
          ·intro w'
           go_simp
           with_reducible rfl
          rotate_left
          ·simp only [Act.put, sA, sB, sC, i64_w, i32_w]
           rfl
          refine pure_ (i := 3) (N := some 28) (v := ?_) (a' := ?_) (bs 10 13) rfl rfl (any_of HT_.out (by kernel_rfl)) (fun _ _ _ h => h) (Or.inl ⟨by rfl, ?_⟩) ?_ ?_
          rotate_left
          ·intro w'
           go_simp
           with_reducible rfl
          rotate_left
          ·simp only [Act.put, sA, sB, sC, i64_w, i32_w]
           rfl
          refine pure_ (i := 4) (N := some 29) (v := ?_) (a' := ?_) (bs 10 29) rfl rfl (any_of HT_.out (by kernel_rfl)) (fun _ _ _ h => h) (Or.inl ⟨by rfl, ?_⟩) ?_ ?_
          rotate_left
          ·intro w'
           go_simp
           with_reducible rfl
          rotate_left
          ·simp only [Act.put, sA, sB, sC, i64_w, i32_w]
           rfl
          refine take_ (i := 1) (N := some 26) (v := ?_) (a' := ?_) (bs 10 31) rfl rfl (take_ofW HT_.out HW_.out (by kernel_rfl)) (fun _ _ _ h => h) (Or.inl ⟨by rfl, ?_⟩) hHeld ?_ ?_
          rotate_left
          ·rintro w' ⟨s0, s1, s2⟩
           go_simp
           with_reducible rfl
          rotate_left
          ·simp only [Act.put, sA, sB, sC, i64_w, i32_w]
           rfl
          refine one_ (i := 5) (N := some 30) (bs 10 63) rfl rfl (one_of HT_.out (by kernel_rfl)) (by decide) (fun K hK => ?_)
          refine goesT_ (t := 27) Try.func51 (by kernel_rfl) rfl #[.pointer (some ⟨gc2_0, 0, none⟩)] #[.int .i64 x22_2, .int .i64 x18_1, .pointer (some ⟨gc2_0, 0, none⟩)] (by rfl) rfl rfl (by first | rfl | (go_simp; done) | (go_simp; rfl)) (by (try simp only [List.map_toArray, List.map_cons, List.map_nil]); first | done | rfl | (go_simp; done) | (go_simp; rfl)) ?_
          with_reducible refine (raster_Flip_1.calls x22_2 x18_1 gc2_0 a2_0 a2_1 A2_2 c2_2 l2_2 t311 t312 t313 t314 _ ?side1 ?side2 ?side3 A17.out).mono ?_
          (case side1 => exact zk0 BK305)
          (case side2 => repeat (first | exact (Kd.C_below HR2_2.out HB.out) | (with_reducible refine Kd.C_alloc ?_ _) | (with_reducible refine Kd.C_drewN ?_ _) | (with_reducible refine Kd.C_drew ?_)))
          (case side3 => exact HC2_2.out)
          rintro e w20 ⟨rfl, hb⟩
          refine ⟨_, rfl, ?_⟩
          replace HO_311002 := zr HO_311002 hb
          replace BK305 := zk BK305 hb
          replace BK306 := zk BK306 hb
          replace BK310 := zk BK310 hb
          replace HB := zb HB hb
          (try clear hb)
          (try clear hb2)
          (try clear hk)
          (try clear hi)
          refine hK.out _ _ ⟨(blk_cell BK310.out 0).trans rfl, (blk_cell BK310.out 1).trans rfl, (blk_cell BK310.out 2).trans rfl⟩ (fun hHeld => ?_)
          clear hK K
          refine norm_ (a' := ?_) ?_ ?_
          rotate_left
          ·show Act.put _ (some 30) _ = _
           simp only [Act.put, sA, sB, sC, i64_w, i32_w]
           rfl
          refine one_ (i := 6) (N := some 31) (bs 10 127) rfl rfl (one_of HT_.out (by kernel_rfl)) (by decide) (fun K hK => ?_)
          refine value_ (w1 := ?_) (v := ?_) (by rfl) rfl ?_ ?_
          rotate_left 2
          ·go_simp
           constructor
           ·rfl
           ·rfl
          refine hK.out _ _ ⟨(blk_cell (blk_alloc BK310.out _) 0).trans rfl, (blk_cell (blk_alloc BK310.out _) 1).trans rfl, (blk_cell (blk_alloc BK310.out _) 2).trans rfl⟩ (fun hHeld => ?_)
          clear hK K
          refine norm_ (a' := ?_) ?_ ?_
          rotate_left
          ·show Act.put _ (some 31) _ = _
           simp only [Act.put, sA, sB, sC, i64_w, i32_w]
           rfl
          refine one_ (i := 7) (N := some 32) (bs 10 255) rfl rfl (one_of HT_.out (by kernel_rfl)) (by decide) (fun K hK => ?_)
          refine Kd.R_append_step k26 (w0 := w) w.heap.size (by rfl) (.tmp 26) (.tmp 31) 22 26 (.agg #[(.int .i64 0), (.int .i64 0), (.int .i64 0), (.int .i64 0)]) 32 rfl Try.underlying22 info26 rfl (by decide) (by omega) u311002 x311002_2 (⟨t311, t312, t313, t314⟩ : S26) [.int .i64 t311, .int .i64 t312, .int .i64 t313, .int .i64 t314] (fun _ => True) (fun _ => False) rfl rfl ?aP (fun _ hk => hk.elim) ?aF ?aO ?aB ?aS ?aL ?_
          (case aP => exact k26_mkM _ _ _ (⟨t311, t312, t313, t314⟩ : S26))
          (case aB => exact (by exact zb0 HB))
          (case aF => exact (fun _ _ => trivial))
          (case aO => exact (by exact zr0 HO_311002))
          (case aS => exact (below_size (by exact zb0 HB)))
          (case aL => have := LMc18.out; omega)
          intro v316 w21 ho hb hg hat
          rw [← Ny315.out] at ho
          have n0_ := Aside0.mk (blk_grown (zk0 BK305) hg (fun e_ => Nat.not_le.2 GL305.out (Kd.R_base HO_311002.out _ e_.symm)))
          have n1_ := Aside0.mk (blk_grown (zk0 BK306) hg (Kd.R_ne HO_311002.out BK306.out (by decide)))
          have n2_ := Aside0.mk (blk_grown (zk0 BK310) hg (Kd.R_ne HO_311002.out BK310.out (by decide)))
          have n3_ := Aside0.mk (hb)
          have n4_ := Aside0.mk (ho)
          clear BK305
          clear BK306
          clear BK310
          clear HB
          clear HO_311002
          have BK305 := n0_
          have BK306 := n1_
          have BK310 := n2_
          have HB := n3_
          have HO317 := n4_
          clear n0_ n1_ n2_ n3_ n4_
          clear ho hb hg hat
          obtain ⟨Ao22, co22, eo22⟩ := Kd.R_slice HO317.out
          (first | subst eo22 | (injection eo22 with f1_ f2_ f3_; have f4_ := f1_.symm; have f5_ := f3_.symm; clear f1_ f2_ f3_; subst f4_; subst f5_))
          refine hK.out _ _ ⟨(blk_cell BK310.out 0).trans rfl, (blk_cell BK310.out 1).trans rfl, (blk_cell BK310.out 2).trans rfl⟩ (fun hHeld => ?_)
          clear hK K
          refine norm_ (a' := ?_) ?_ ?_
          rotate_left
          ·show Act.put _ (some 32) _ = _
           simp only [Act.put, sA, sB, sC, i64_w, i32_w]
           rfl
          refine pure_ (i := 8) (N := some 33) (v := ?_) (a' := ?_) (bs 10 511) rfl rfl (any_of HT_.out (by kernel_rfl)) (fun _ _ _ h => h) (Or.inl ⟨by rfl, ?_⟩) ?_ ?_
          rotate_left
          ·intro w'
           go_simp
           with_reducible rfl
          rotate_left
          ·simp only [Act.put, sA, sB, sC, i64_w, i32_w]
           rfl
          refine last_ (i := 9) (N := none) (bs 10 1023) rfl rfl (one_of HT_.out (by kernel_rfl)) (by decide) (fun K hK => ?_)
          have hs23 : w21.cell? ⟨gb310, 2, none⟩ = some (u311002) := (blk_cell BK310.out 2).trans rfl
          have hfs23 := blk_frozen BK310.out 2
          have hns23_0 := NB305_310.out
          have hns23_1 := NB306_310.out
          have hms23_0 := NB310_305.out
          have hms23_1 := NB310_306.out
          refine skip_ (w1 := ?_) (by rfl) rfl ?_ ?_
          rotate_left
          ·go_simp
           rfl
          refine hK.out _ _ ?_
          clear hK K
          refine done_ (done_of HT_.out (by kernel_rfl)) ?_
          try go_wp2
          first | go_roundg k2 | ((try subst hji4); go_roundg k2)
          case measure => have := HK1.out; have := HK2.out; omega
          case rel => first | (exact ⟨(wrap64 (x22_2 + 1)), (y315), (.slice Ao22 y315.length co22), (by first | rfl | (simp; done) | (simp [*]; done)), H', ⟨by have := HK1.out; have := HK2.out; omega⟩, ⟨by exact zro HO317 BK310 (by decide)⟩, ⟨by exact zf BK305 NB305_310⟩, ⟨by exact zf BK306 NB306_310⟩, ⟨by exact zp BK310 rfl⟩, ⟨by exact zbo HB GE310⟩⟩) | (exact ⟨(wrap64 (x22_2 + 1)), (y315), (.slice Ao22 y315.length co22), (by first | rfl | (simp; done) | (simp [*]; done)), H', ⟨by have := HK1.out; have := HK2.out; omega⟩, ⟨by exact zro HO317 BK310 (by decide)⟩, ⟨by exact zf BK305 NB305_310⟩, ⟨by exact zf BK306 NB306_310⟩, ⟨by exact zp BK310 rfl⟩, ⟨by exact zbo HB GE310⟩⟩)
         ·rw [if_neg c18] at H
          exact absurd H (by simp)
        ·rw [if_neg c16] at H
         have c16b0 : decide (x22_2 < a0) = false := decide_eq_false c16
         clear c16
         have H' := Aside0.mk H
         clear H
         go_wp2
         first | go_roundg k2 | ((try subst hji4); go_roundg k2)
         case measure => have := HK1.out; have := HK2.out; omega
         case rel => first | (exact ⟨(wrap64 (x18_1 + 1)), (x311002_2), (u311002), (by first | rfl | (simp; done) | (simp [*]; done)), H', ⟨by have := HK1.out; have := HK2.out; omega⟩, ⟨by exact zr0 HO_311002⟩, ⟨by exact zk0 BK305⟩, ⟨by exact zk0 BK306⟩, ⟨by exact zk0 BK310⟩, ⟨by exact zb0 HB⟩⟩) | (exact ⟨(wrap64 (x18_1 + 1)), (x311002_2), (u311002), (by first | rfl | (simp; done) | (simp [*]; done)), H', ⟨by have := HK1.out; have := HK2.out; omega⟩, ⟨by exact zr0 HO_311002⟩, ⟨by exact zk0 BK305⟩, ⟨by exact zk0 BK306⟩, ⟨by exact zk0 BK310⟩, ⟨by exact zb0 HB⟩⟩)
     ·rw [if_neg c15] at H
      have c15b0 : decide (x18_1 < a1) = false := decide_eq_false c15
      clear c15
      simp only [Option.some.injEq, Prod.mk.injEq] at H
      obtain ⟨rfl, rfl, rfl⟩ := H
      have hnb24 := NB310_305.out
      have hnc24 := NB305_310.out
      have hnb25 := NB310_306.out
      have hnc25 := NB306_310.out
      obtain ⟨hcz26_0, hcz26_1, hcz26_2, hfz26_0, hfz26_1, hfz26_2⟩ := zq3 BK310
      have hnb27 := NB306_305.out
      have hnc27 := NB305_306.out
      obtain ⟨hcz28_0, hcz28_1, hcz28_2, hfz28_0, hfz28_1, hfz28_2⟩ := zq3 BK306
      obtain ⟨Ao29, co29, eo29⟩ := Kd.R_slice HO_311002.out
      subst eo29
      go_wp2
      refine bodyPost_ret (results_cell_row rfl _ _ gb306 24 #[.int .i64 a0, .int .i64 a1, .slice Ao29 x311002_1.length co29] (0, 0) _ rfl (by exact zp BK306 rfl) Try.underlying24 rfl (by kernel_rfl)) rfl ?_
      exact ⟨_, by first | rfl | (simp [errW_none, errW_some] <;> rfl) | (simp only [← hji4]; first | rfl | (simp [errW_none, errW_some] <;> rfl)) | (simp [*, errW_none, errW_some] <;> rfl), by exact zro HO_311002 BK306 (by decide), by exact zbo HB GE306⟩
  ·rw [if_neg c6] at H
   exact absurd H (by simp)
 ·rw [if_neg c5] at H
  exact absurd H (by simp)

/-! ### raster_fill__raster_Flip_2: function 40 -/
mutual
def raster_fill__raster_Flip_2.l0 : Nat → Int → Int → Int → Int → Int → List (S26) → Int → Int → List (S26) → Option (Int × Int × (List (S26)))
 | 0, _, _, _, _, _, _, _, _, _ => none
 | k + 1, x0, x17, x18, x319000, x319001, x319002, x324000, x324001, x324002 => if x18 < x17 then (raster_fill__raster_Flip_2.l1 k x0 x18 x17 x18 x0 0 x319000 x319001 x319002 x324000 x324001 x324002) else (some (x324000, x324001, x324002))
def raster_fill__raster_Flip_2.l1 : Nat → Int → Int → Int → Int → Int → Int → Int → Int → List (S26) → Int → Int → List (S26) → Option (Int × Int × (List (S26)))
 | 0, _, _, _, _, _, _, _, _, _, _, _, _ => none
 | k + 1, x0, x8, x17, x18, x21, x22, x319000, x319001, x319002, x324000, x324001, x324002 => if x22 < x21 then ((raster_Flip_2.f x22 x8 x319000 x319001 x319002).bind fun bt324 => (if x324002.length < 4398046511104 then (raster_fill__raster_Flip_2.l1 k x0 x8 x17 x18 x21 (wrap64 (x22 + 1)) x319000 x319001 x319002 x324000 x324001 (x324002 ++ [(⟨bt324.1, bt324.2.1, bt324.2.2.1, bt324.2.2.2⟩ : S26)])) else (none))) else (raster_fill__raster_Flip_2.l0 k x0 x17 (wrap64 (x18 + 1)) x319000 x319001 x319002 x324000 x324001 x324002)
end
def raster_fill__raster_Flip_2.f (k : Nat) (a0 : Int) (a1 : Int) (a2_0 : Int) (a2_1 : Int) (l2_2 : List (S26)) : Option (Int × Int × (List (S26))) := if 0 ≤ (wrap64 (a0 * a1)) then (if (wrap64 (a0 * a1) : Int).toNat ≤ 8796093022208 then (raster_fill__raster_Flip_2.l0 k a0 a1 0 a2_0 a2_1 l2_2 a0 a1 (([] : List (S26)))) else (none)) else (none)
theorem raster_fill__raster_Flip_2.mono_l : ∀ k, (∀ y0 y1 y2 y3 y4 y5 y6 y7 y8, LeO (raster_fill__raster_Flip_2.l0 k y0 y1 y2 y3 y4 y5 y6 y7 y8) (raster_fill__raster_Flip_2.l0 (k + 1) y0 y1 y2 y3 y4 y5 y6 y7 y8)) ∧ (∀ y0 y1 y2 y3 y4 y5 y6 y7 y8 y9 y10 y11, LeO (raster_fill__raster_Flip_2.l1 k y0 y1 y2 y3 y4 y5 y6 y7 y8 y9 y10 y11) (raster_fill__raster_Flip_2.l1 (k + 1) y0 y1 y2 y3 y4 y5 y6 y7 y8 y9 y10 y11))
 | 0 => ⟨fun _ _ _ _ _ _ _ _ _ r h => by simp [raster_fill__raster_Flip_2.l0] at h, fun _ _ _ _ _ _ _ _ _ _ _ _ r h => by simp [raster_fill__raster_Flip_2.l1] at h⟩
 | k + 1 => by
  obtain ⟨ih0, ih1⟩ := raster_fill__raster_Flip_2.mono_l k
  refine ⟨?_, ?_⟩
  ·intro y0 y1 y2 y3 y4 y5 y6 y7 y8
   unfold raster_fill__raster_Flip_2.l0
   repeat' first
   | (with_reducible exact ih0 _ _ _ _ _ _ _ _ _)
   | (with_reducible exact ih1 _ _ _ _ _ _ _ _ _ _ _ _)
   | (with_reducible exact LeO.refl _)
   | (with_reducible exact LeO.none _)
   | (with_reducible refine LeO.ite ?_ ?_)
   | (with_reducible refine LeO.bind ?_ (fun _ => ?_))
   | exact ih0 _ _ _ _ _ _ _ _ _
   | exact ih1 _ _ _ _ _ _ _ _ _ _ _ _
   | exact LeO.none _
   | refine LeO.ite ?_ ?_
   | refine LeO.bind ?_ (fun _ => ?_)
  ·intro y0 y1 y2 y3 y4 y5 y6 y7 y8 y9 y10 y11
   unfold raster_fill__raster_Flip_2.l1
   repeat' first
   | (with_reducible exact ih0 _ _ _ _ _ _ _ _ _)
   | (with_reducible exact ih1 _ _ _ _ _ _ _ _ _ _ _ _)
   | (with_reducible exact LeO.refl _)
   | (with_reducible exact LeO.none _)
   | (with_reducible refine LeO.ite ?_ ?_)
   | (with_reducible refine LeO.bind ?_ (fun _ => ?_))
   | exact ih0 _ _ _ _ _ _ _ _ _
   | exact ih1 _ _ _ _ _ _ _ _ _ _ _ _
   | exact LeO.none _
   | refine LeO.ite ?_ ?_
   | refine LeO.bind ?_ (fun _ => ?_)
theorem raster_fill__raster_Flip_2.mono : ∀ a0 a1 a2 a3 a4 k, LeO (raster_fill__raster_Flip_2.f k a0 a1 a2 a3 a4) (raster_fill__raster_Flip_2.f (k + 1) a0 a1 a2 a3 a4) := by
 intro a0 a1 a2 a3 a4 k
 obtain ⟨ih0, ih1⟩ := raster_fill__raster_Flip_2.mono_l k
 unfold raster_fill__raster_Flip_2.f
 repeat' first
   | (with_reducible exact ih0 _ _ _ _ _ _ _ _ _)
   | (with_reducible exact ih1 _ _ _ _ _ _ _ _ _ _ _ _)
   | (with_reducible exact LeO.refl _)
   | (with_reducible exact LeO.none _)
   | (with_reducible refine LeO.ite ?_ ?_)
   | (with_reducible refine LeO.bind ?_ (fun _ => ?_))
   | exact ih0 _ _ _ _ _ _ _ _ _
   | exact ih1 _ _ _ _ _ _ _ _ _ _ _ _
   | exact LeO.none _
   | refine LeO.ite ?_ ?_
   | refine LeO.bind ?_ (fun _ => ?_)
def raster_fill__raster_Flip_2.T8 : Bool × List (List Nat × List Nat) := (true, [([], []), ([0], [0]), ([], []), ([], []), ([], []), ([2, 3, 4], [2, 3, 4]), ([5], [5]), ([1, 6, 5], [1, 6]), ([0, 1, 2, 3, 4, 5, 6, 7], []), ([8, 7, 7, 0, 1, 2, 3, 4, 5, 6, 7], [7, 8])])
def raster_fill__raster_Flip_2.B8 : List Nat := [0, 1, 0, 0, 0, 28, 60, 127, 255, 511]
theorem raster_fill__raster_Flip_2.tab8 : rtab .any (opsOf Try.f40 8) = raster_fill__raster_Flip_2.T8 := by kernel_rfl
theorem raster_fill__raster_Flip_2.bits8 : waitsOk raster_fill__raster_Flip_2.T8.2 raster_fill__raster_Flip_2.B8 = true := by kernel_rfl
set_option maxHeartbeats 8000000 in
set_option maxRecDepth 100000 in
theorem raster_fill__raster_Flip_2.calls (k : Nat) (a0 : Int) (a1 : Int) (gc2_0 : Nat) (a2_0 : Int) (a2_1 : Int) (A2_2 : Option Addr) (c2_2 : Nat) (l2_2 : List (S26)) (r1 : Int) (r2 : Int) (r3 : List (S26)) (w : World) (hp2_0 : w.heap[gc2_0]? = some (.cells #[.int .i64 a2_0, .int .i64 a2_1, .slice A2_2 l2_2.length c2_2] 24 (0, 0))) (hr2_2 : Kd.C k26 w A2_2 l2_2.length l2_2) (hc2_2 : l2_2.length ≤ c2_2) (h : raster_fill__raster_Flip_2.f k a0 a1 a2_0 a2_1 l2_2 = some (r1, r2, r3)) :
  Calls Try.prog 40 #[.int .i64 a0, .int .i64 a1, .func (.func 52) #[] #[.pointer (some ⟨gc2_0, 0, none⟩)]] w fun e w' => ∃ v2_ : Value, e = .returned (.agg #[.int .i64 r1, .int .i64 r2, v2_]) ∧ Kd.R k26 26 w' w.heap.size (fun _ => True) v2_ r3 ∧ Below w.heap.size w w' := by
 have hu24 := Try.underlying24
 have HR2_2 := Aside0.mk hr2_2
 have HC2_2 := Aside0.mk hc2_2
 clear hr2_2 hc2_2
 have BK318 := Aside0.mk hp2_0
 have GL318 := Aside0.mk (show gc2_0 < w.heap.size from blk_lt hp2_0)
 clear hp2_0
 have HB := Aside0.mk (Below.refl w.heap.size w)
 have H : (if 0 ≤ (wrap64 (a0 * a1)) then (if (wrap64 (a0 * a1) : Int).toNat ≤ 8796093022208 then (raster_fill__raster_Flip_2.l0 k a0 a1 0 a2_0 a2_1 l2_2 a0 a1 (([] : List (S26)))) else (none)) else (none)) = some (r1, r2, r3) := h
 clear h
 obtain ⟨ji4, hji4⟩ : ∃ j_ : Int, (wrap64 (a0 * a1)) = j_ := ⟨_, rfl⟩
 replace H : (if 0 ≤ (ji4) then (if (ji4 : Int).toNat ≤ 8796093022208 then (raster_fill__raster_Flip_2.l0 k a0 a1 0 a2_0 a2_1 l2_2 a0 a1 (([] : List (S26)))) else (none)) else (none)) = some (r1, r2, r3) := by first | (rw [hji4] at H; exact H) | (simp only [hji4] at H ⊢; exact H)
 have hji4w : (IntKind.i64.wrap (a0 * a1)) = ji4 := (i64_w _).trans hji4
 by_cases c5 : 0 ≤ (ji4)
 ·rw [if_pos c5] at H
  have c5b0 := eq_true c5
  have c5b1 : decide (0 ≤ (ji4)) = true := decide_eq_true c5
  clear c5
  by_cases c6 : (ji4 : Int).toNat ≤ 8796093022208
  ·rw [if_pos c6] at H
   have c6b0 := eq_true c6
   have c6b1 : decide ((ji4 : Int).toNat ≤ 8796093022208) = true := decide_eq_true c6
   clear c6
   obtain ⟨y320, hy320⟩ : ∃ y_ : List (S26), y_ = (([] : List (S26))) := ⟨_, rfl⟩
   replace H : (raster_fill__raster_Flip_2.l0 k a0 a1 0 a2_0 a2_1 l2_2 a0 a1 y320) = some (r1, r2, r3) := by first | (rw [hy320]; with_reducible exact H) | (have H2_ := (Option.bind_some _ _).symm.trans H; rw [hy320]; with_reducible exact H2_) | (have H2_ := (Option.bind_some _ _).symm.trans H; with_reducible exact H2_) | with_reducible exact H | (rw [hy320]; exact H) | exact H
   have Ny320 := Aside0.mk hy320
   clear hy320
   have H' := Aside0.mk H
   clear H
   go_enter Try.func40, Try.ntmps40
   go_wp2_with (first | ((with_reducible refine gate_dst (N := 6) rfl ?_); refine box_event ?hg (N := 6) ?hd (cs := #[.int .i64 0, .int .i64 0, .slice none 0 0]) (t := 24) ?hr ?_; (case hd => rfl); (case hg => rfl); (case hr => first | (go_simp; done) | (go_simp; rfl)); intro gb319 hg w7 hbox hb; have GW319 := zg HB hg; have GE319 := zg HB hg; have NB318_319 := zn BK318 hg; have NB319_318 := zn' BK318 hg; have n0_ := Aside0.mk (hbox); replace BK318 := zk BK318 hb; replace HB := zb HB hb; have BK319 := n0_; clear n0_; clear hb hbox hg) | ((with_reducible refine gate_dst (N := 15) rfl ?_); refine Kd.R_make0 k26 _ 26 rfl (N := 15) rfl 22 _ _ rfl ji4 rfl rfl Try.underlying22 (.agg #[(.int .i64 0), (.int .i64 0), (.int .i64 0), (.int .i64 0)]) 32 info26 rfl (by decide) (by omega) z26 (ok := fun _ => True) (okp := fun _ => True) (k26_mkM _ _ _ z26 ) (fun _ hk => hk) trivial (of_decide_eq_true (by first | (with_reducible assumption) | assumption)) (Nat.le_trans (Nat.mul_le_mul_right _ (of_decide_eq_true (by first | (with_reducible assumption) | assumption) : ji4.toNat ≤ 8796093022208)) (by omega)) (Below.refl _ _) (Nat.le_refl _) ?_; intro v321 w8 ho9 hb hg_ hnew_; clear hg_ hnew_; (first | rw [← Ny320.out] at ho9 | (simp only [Int.reduceToNat] at ho9; rw [← Ny320.out] at ho9)); have HO322 := zl HB ho9; replace BK318 := zk BK318 hb; replace BK319 := zk BK319 hb; replace HB := zb HB hb; clear hb ho9; obtain ⟨Ao10, co10, eo10⟩ := Kd.R_slice HO322.out; subst eo10) | ((with_reducible refine gate_dst (N := 7) rfl ?_); refine box_event ?hg (N := 7) ?hd (cs := #[.int .i64 0, .int .i64 0, .slice none 0 0]) (t := 24) ?hr ?_; (case hd => rfl); (case hg => rfl); (case hr => first | (go_simp; done) | (go_simp; rfl)); intro gb323 hg w11 hbox hb; have GW323 := zg HB hg; have GE323 := zg HB hg; have NB318_323 := zn BK318 hg; have NB323_318 := zn' BK318 hg; have NB319_323 := zn BK319 hg; have NB323_319 := zn' BK319 hg; have n0_ := Aside0.mk (hbox); replace HO322 := zr HO322 hb; replace BK318 := zk BK318 hb; replace BK319 := zk BK319 hb; replace HB := zb HB hb; have BK323 := n0_; clear n0_; clear hb hbox hg; have hnb12 := NB323_318.out; have hnc12 := NB318_323.out; have hnb13 := NB323_319.out; have hnc13 := NB319_323.out; obtain ⟨hcz14_0, hcz14_1, hcz14_2, hfz14_0, hfz14_1, hfz14_2⟩ := zq3 BK323))
   (try simp only [Act.put, sA, sB, sC])
   go_loopg [18] k (fun kq v18 w' => ∃ (x18_1 : Int) (x324002_1 : List (S26)) (u324002 : Value), v18 = .int .i64 x18_1 ∧ Aside0 (raster_fill__raster_Flip_2.l0 kq a0 a1 x18_1 a2_0 a2_1 l2_2 a0 a1 x324002_1 = some (r1, r2, r3)) ∧ Aside0 (kq ≤ k) ∧ Aside0 (Kd.R k26 26 w' w.heap.size (fun _ => True) u324002 x324002_1) ∧ Aside0 (w'.heap[gc2_0]? = some (.cells #[.int .i64 a2_0, .int .i64 a2_1, (.slice A2_2 l2_2.length c2_2)] 24 (0, 0))) ∧ Aside0 (w'.heap[gb319]? = some (.cells #[.int .i64 0, .int .i64 0, (.slice none 0 0)] 24 (0, 0))) ∧ Aside0 (w'.heap[gb323]? = some (.cells #[.int .i64 a0, .int .i64 a1, u324002] 24 (0, 0))) ∧ Aside0 (Below w.heap.size w w'))
   case atStart => exact ⟨(0), (y320), (.slice Ao10 y320.length co10), (by first | rfl | (simp; done) | (simp [*]; done)), H', ⟨Nat.le_refl _⟩, ⟨by exact zro HO322 BK323 (by decide)⟩, ⟨by exact zf BK318 NB318_323⟩, ⟨by exact zf BK319 NB319_323⟩, ⟨by exact zp BK323 rfl⟩, ⟨by exact zbo HB GE323⟩⟩
   case round =>
    clear H'
    try clear c1
    try clear c2
    try clear p2
    try clear q3
    try clear c4
    try clear c5
    try clear c5b0
    try clear c5b1
    try clear c6
    try clear c6b0
    try clear c6b1
    try clear p6
    try clear c12
    try clear c13
    try clear hcz14_0
    try clear hcz14_1
    try clear hcz14_2
    try clear hfz14_0
    try clear hfz14_1
    try clear hfz14_2
    obtain ⟨x18_1, x324002_1, u324002, rfl, HA, HK1, HO_324002, BK318, BK319, BK323, HB⟩ := hrel
    cases gk with
    | zero => exact absurd HA.out (by simp [raster_fill__raster_Flip_2.l0])
    | succ k1 =>
     have H := HA.out
     clear HA
     simp only [raster_fill__raster_Flip_2.l0] at H
     by_cases c15 : x18_1 < a1
     ·rw [if_pos c15] at H
      have c15b0 : decide (x18_1 < a1) = true := decide_eq_true c15
      clear c15
      have H' := Aside0.mk H
      clear H
      go_wp2
      go_loopg [22] k1 (fun kq v22 w' => ∃ (x22_2 : Int) (x324002_2 : List (S26)) (u324002 : Value), v22 = .int .i64 x22_2 ∧ Aside0 (raster_fill__raster_Flip_2.l1 kq a0 x18_1 a1 x18_1 a0 x22_2 a2_0 a2_1 l2_2 a0 a1 x324002_2 = some (r1, r2, r3)) ∧ Aside0 (kq ≤ k1) ∧ Aside0 (Kd.R k26 26 w' w.heap.size (fun _ => True) u324002 x324002_2) ∧ Aside0 (w'.heap[gc2_0]? = some (.cells #[.int .i64 a2_0, .int .i64 a2_1, (.slice A2_2 l2_2.length c2_2)] 24 (0, 0))) ∧ Aside0 (w'.heap[gb319]? = some (.cells #[.int .i64 0, .int .i64 0, (.slice none 0 0)] 24 (0, 0))) ∧ Aside0 (w'.heap[gb323]? = some (.cells #[.int .i64 a0, .int .i64 a1, u324002] 24 (0, 0))) ∧ Aside0 (Below w.heap.size w w'))
      case atStart => exact ⟨(0), (x324002_1), (u324002), (by first | rfl | (simp; done) | (simp [*]; done)), H', ⟨Nat.le_refl _⟩, ⟨by exact zr0 HO_324002⟩, ⟨by exact zk0 BK318⟩, ⟨by exact zk0 BK319⟩, ⟨by exact zk0 BK323⟩, ⟨by exact zb0 HB⟩⟩
      case round =>
       clear H'
       try clear c1
       try clear c2
       try clear p2
       try clear q3
       try clear c4
       try clear c5
       try clear c5b0
       try clear c5b1
       try clear c6
       try clear c6b0
       try clear c6b1
       try clear p6
       try clear c12
       try clear c13
       try clear c15
       try clear c15b0
       try clear hcz14_0
       try clear hcz14_1
       try clear hcz14_2
       try clear hfz14_0
       try clear hfz14_1
       try clear hfz14_2
       try clear p2
       try clear p6
       try clear q3
       obtain ⟨x22_2, x324002_2, u324002, rfl, HA, HK2, HO_324002, BK318, BK319, BK323, HB⟩ := hrel
       cases gk with
       | zero => exact absurd HA.out (by simp [raster_fill__raster_Flip_2.l1])
       | succ k2 =>
        have H := HA.out
        clear HA
        simp only [raster_fill__raster_Flip_2.l1] at H
        by_cases c16 : x22_2 < a0
        ·rw [if_pos c16] at H
         have c16b0 : decide (x22_2 < a0) = true := decide_eq_true c16
         clear c16
         replace H := Option.bind_eq_some_iff.mp H
         obtain ⟨⟨t324, t325, t326, t327⟩, A170, H⟩ := H
         replace H : (if x324002_2.length < 4398046511104 then (raster_fill__raster_Flip_2.l1 k2 a0 x18_1 a1 x18_1 a0 (wrap64 (x22_2 + 1)) a2_0 a2_1 l2_2 a0 a1 (x324002_2 ++ [(⟨t324, t325, t326, t327⟩ : S26)])) else (none)) = some (r1, r2, r3) := H
         have A17 := Aside0.mk A170
         clear A170
         by_cases c18 : x324002_2.length < 4398046511104
         ·rw [if_pos c18] at H
          have LMc18 := Aside0.mk c18
          clear c18
          obtain ⟨y328, hy328⟩ : ∃ y_ : List (S26), y_ = (x324002_2 ++ [(⟨t324, t325, t326, t327⟩ : S26)]) := ⟨_, rfl⟩
          replace H : (raster_fill__raster_Flip_2.l1 k2 a0 x18_1 a1 x18_1 a0 (wrap64 (x22_2 + 1)) a2_0 a2_1 l2_2 a0 a1 y328) = some (r1, r2, r3) := by first | (rw [hy328]; with_reducible exact H) | (have H2_ := (Option.bind_some _ _).symm.trans H; rw [hy328]; with_reducible exact H2_) | (have H2_ := (Option.bind_some _ _).symm.trans H; with_reducible exact H2_) | with_reducible exact H | (rw [hy328]; exact H) | exact H
          have Ny328 := Aside0.mk hy328
          clear hy328
          have H' := Aside0.mk H
          clear H
          try go_wp2
          replace HO_324002 := zrd HO_324002
          replace BK318 := zkd BK318
          replace BK319 := zkd BK319
          replace BK323 := zkd BK323
          replace HB := zbd HB
          refine start_ (n := 10) (S := fun w' => w'.cell? ⟨gb323, 0, none⟩ = some (.int .i64 a0) ∧ w'.cell? ⟨gb323, 1, none⟩ = some (.int .i64 a1) ∧ w'.cell? ⟨gb323, 2, none⟩ = some (u324002)) (ds := [9]) (bs 10 0) (by kernel_rfl) rfl rfl ⟨(blk_cell BK323.out 0).trans rfl, (blk_cell BK323.out 1).trans rfl, (blk_cell BK323.out 2).trans rfl⟩ (fun hHeld => ?_); refine with_tabW raster_fill__raster_Flip_2.tab8 raster_fill__raster_Flip_2.bits8 (fun HT_ HW_ => ?_)
          generalize wr.drew = w19 at HO_324002 BK318 BK319 BK323 HB hHeld ⊢
          refine pure_ (i := 0) (N := some 25) (v := ?_) (a' := ?_) (bs 10 1) rfl rfl (any_of HT_.out (by kernel_rfl)) (fun _ _ _ h => h) (Or.inl ⟨by rfl, ?_⟩) ?_ ?_
          rotate_left
          ·intro w'
           go_simp
           with_reducible rfl
          rotate_left
          ·simp only [Act.put, sA, sB, sC, i64_w, i32_w]
           rfl
          refine pure_ (i := 2) (N := some 27) (v := ?_) (a' := ?_) (bs 10 5) rfl rfl (any_of HT_.out (by kernel_rfl)) (fun _ _ _ h => h) (Or.inl ⟨by rfl, ?_⟩) ?_ ?_
          rotate_left
          ·intro w'
           go_simp
           with_reducible rfl
          rotate_left
          ·simp only [Act.put, sA, sB, sC, i64_w, i32_w]
           rfl
          refine pure_ (i := 3) (N := some 28) (v := ?_) (a' := ?_) (bs 10 13) rfl rfl (any_of HT_.out (by kernel_rfl)) (fun _ _ _ h => h) (Or.inl ⟨by rfl, ?_⟩) ?_ ?_
          rotate_left
          ·intro w'
           go_simp
           with_reducible rfl
          rotate_left
          ·simp only [Act.put, sA, sB, sC, i64_w, i32_w]
           rfl
          refine pure_ (i := 4) (N := some 29) (v := ?_) (a' := ?_) (bs 10 29) rfl rfl (any_of HT_.out (by kernel_rfl)) (fun _ _ _ h => h) (Or.inl ⟨by rfl, ?_⟩) ?_ ?_
          rotate_left
          ·intro w'
           go_simp
           with_reducible rfl
          rotate_left
          ·simp only [Act.put, sA, sB, sC, i64_w, i32_w]
           rfl
          refine take_ (i := 1) (N := some 26) (v := ?_) (a' := ?_) (bs 10 31) rfl rfl (take_ofW HT_.out HW_.out (by kernel_rfl)) (fun _ _ _ h => h) (Or.inl ⟨by rfl, ?_⟩) hHeld ?_ ?_
          rotate_left
          ·rintro w' ⟨s0, s1, s2⟩
           go_simp
           with_reducible rfl
          rotate_left
          ·simp only [Act.put, sA, sB, sC, i64_w, i32_w]
           rfl
          refine one_ (i := 5) (N := some 30) (bs 10 63) rfl rfl (one_of HT_.out (by kernel_rfl)) (by decide) (fun K hK => ?_)
          refine goesT_ (t := 27) Try.func52 (by kernel_rfl) rfl #[.pointer (some ⟨gc2_0, 0, none⟩)] #[.int .i64 x22_2, .int .i64 x18_1, .pointer (some ⟨gc2_0, 0, none⟩)] (by rfl) rfl rfl (by first | rfl | (go_simp; done) | (go_simp; rfl)) (by (try simp only [List.map_toArray, List.map_cons, List.map_nil]); first | done | rfl | (go_simp; done) | (go_simp; rfl)) ?_
          with_reducible refine (raster_Flip_2.calls x22_2 x18_1 gc2_0 a2_0 a2_1 A2_2 c2_2 l2_2 t324 t325 t326 t327 _ ?side1 ?side2 ?side3 A17.out).mono ?_
          (case side1 => exact zk0 BK318)
          (case side2 => repeat (first | exact (Kd.C_below HR2_2.out HB.out) | (with_reducible refine Kd.C_alloc ?_ _) | (with_reducible refine Kd.C_drewN ?_ _) | (with_reducible refine Kd.C_drew ?_)))
          (case side3 => exact HC2_2.out)
          rintro e w20 ⟨rfl, hb⟩
          refine ⟨_, rfl, ?_⟩
          replace HO_324002 := zr HO_324002 hb
          replace BK318 := zk BK318 hb
          replace BK319 := zk BK319 hb
          replace BK323 := zk BK323 hb
          replace HB := zb HB hb
          (try clear hb)
          (try clear hb2)
          (try clear hk)
          (try clear hi)
          refine hK.out _ _ ⟨(blk_cell BK323.out 0).trans rfl, (blk_cell BK323.out 1).trans rfl, (blk_cell BK323.out 2).trans rfl⟩ (fun hHeld => ?_)
          clear hK K
          refine norm_ (a' := ?_) ?_ ?_
          rotate_left
          ·show Act.put _ (some 30) _ = _
           simp only [Act.put, sA, sB, sC, i64_w, i32_w]
           rfl
          refine one_ (i := 6) (N := some 31) (bs 10 127) rfl rfl (one_of HT_.out (by kernel_rfl)) (by decide) (fun K hK => ?_)
          refine value_ (w1 := ?_) (v := ?_) (by rfl) rfl ?_ ?_
          rotate_left 2
          ·go_simp
           constructor
           ·rfl
           ·rfl
          refine hK.out _ _ ⟨(blk_cell (blk_alloc BK323.out _) 0).trans rfl, (blk_cell (blk_alloc BK323.out _) 1).trans rfl, (blk_cell (blk_alloc BK323.out _) 2).trans rfl⟩ (fun hHeld => ?_)
          clear hK K
          refine norm_ (a' := ?_) ?_ ?_
          rotate_left
          ·show Act.put _ (some 31) _ = _
           simp only [Act.put, sA, sB, sC, i64_w, i32_w]
           rfl
          refine one_ (i := 7) (N := some 32) (bs 10 255) rfl rfl (one_of HT_.out (by kernel_rfl)) (by decide) (fun K hK => ?_)
          refine Kd.R_append_step k26 (w0 := w) w.heap.size (by rfl) (.tmp 26) (.tmp 31) 22 26 (.agg #[(.int .i64 0), (.int .i64 0), (.int .i64 0), (.int .i64 0)]) 32 rfl Try.underlying22 info26 rfl (by decide) (by omega) u324002 x324002_2 (⟨t324, t325, t326, t327⟩ : S26) [.int .i64 t324, .int .i64 t325, .int .i64 t326, .int .i64 t327] (fun _ => True) (fun _ => False) rfl rfl ?aP (fun _ hk => hk.elim) ?aF ?aO ?aB ?aS ?aL ?_
          (case aP => exact k26_mkM _ _ _ (⟨t324, t325, t326, t327⟩ : S26))
          (case aB => exact (by exact zb0 HB))
          (case aF => exact (fun _ _ => trivial))
          (case aO => exact (by exact zr0 HO_324002))
          (case aS => exact (below_size (by exact zb0 HB)))
          (case aL => have := LMc18.out; omega)
          intro v329 w21 ho hb hg hat
          rw [← Ny328.out] at ho
          have n0_ := Aside0.mk (blk_grown (zk0 BK318) hg (fun e_ => Nat.not_le.2 GL318.out (Kd.R_base HO_324002.out _ e_.symm)))
          have n1_ := Aside0.mk (blk_grown (zk0 BK319) hg (Kd.R_ne HO_324002.out BK319.out (by decide)))
          have n2_ := Aside0.mk (blk_grown (zk0 BK323) hg (Kd.R_ne HO_324002.out BK323.out (by decide)))
          have n3_ := Aside0.mk (hb)
          have n4_ := Aside0.mk (ho)
          clear BK318
          clear BK319
          clear BK323
          clear HB
          clear HO_324002
          have BK318 := n0_
          have BK319 := n1_
          have BK323 := n2_
          have HB := n3_
          have HO330 := n4_
          clear n0_ n1_ n2_ n3_ n4_
          clear ho hb hg hat
          obtain ⟨Ao22, co22, eo22⟩ := Kd.R_slice HO330.out
          (first | subst eo22 | (injection eo22 with f1_ f2_ f3_; have f4_ := f1_.symm; have f5_ := f3_.symm; clear f1_ f2_ f3_; subst f4_; subst f5_))
          refine hK.out _ _ ⟨(blk_cell BK323.out 0).trans rfl, (blk_cell BK323.out 1).trans rfl, (blk_cell BK323.out 2).trans rfl⟩ (fun hHeld => ?_)
          clear hK K
          refine norm_ (a' := ?_) ?_ ?_
          rotate_left
          ·show Act.put _ (some 32) _ = _
           simp only [Act.put, sA, sB, sC, i64_w, i32_w]
           rfl
          refine pure_ (i := 8) (N := some 33) (v := ?_) (a' := ?_) (bs 10 511) rfl rfl (any_of HT_.out (by kernel_rfl)) (fun _ _ _ h => h) (Or.inl ⟨by rfl, ?_⟩) ?_ ?_
          rotate_left
          ·intro w'
           go_simp
           with_reducible rfl
          rotate_left
          ·simp only [Act.put, sA, sB, sC, i64_w, i32_w]
           rfl
          refine last_ (i := 9) (N := none) (bs 10 1023) rfl rfl (one_of HT_.out (by kernel_rfl)) (by decide) (fun K hK => ?_)
          have hs23 : w21.cell? ⟨gb323, 2, none⟩ = some (u324002) := (blk_cell BK323.out 2).trans rfl
          have hfs23 := blk_frozen BK323.out 2
          have hns23_0 := NB318_323.out
          have hns23_1 := NB319_323.out
          have hms23_0 := NB323_318.out
          have hms23_1 := NB323_319.out
          refine skip_ (w1 := ?_) (by rfl) rfl ?_ ?_
          rotate_left
          ·go_simp
           rfl
          refine hK.out _ _ ?_
          clear hK K
          refine done_ (done_of HT_.out (by kernel_rfl)) ?_
          try go_wp2
          first | go_roundg k2 | ((try subst hji4); go_roundg k2)
          case measure => have := HK1.out; have := HK2.out; omega
          case rel => first | (exact ⟨(wrap64 (x22_2 + 1)), (y328), (.slice Ao22 y328.length co22), (by first | rfl | (simp; done) | (simp [*]; done)), H', ⟨by have := HK1.out; have := HK2.out; omega⟩, ⟨by exact zro HO330 BK323 (by decide)⟩, ⟨by exact zf BK318 NB318_323⟩, ⟨by exact zf BK319 NB319_323⟩, ⟨by exact zp BK323 rfl⟩, ⟨by exact zbo HB GE323⟩⟩) | (exact ⟨(wrap64 (x22_2 + 1)), (y328), (.slice Ao22 y328.length co22), (by first | rfl | (simp; done) | (simp [*]; done)), H', ⟨by have := HK1.out; have := HK2.out; omega⟩, ⟨by exact zro HO330 BK323 (by decide)⟩, ⟨by exact zf BK318 NB318_323⟩, ⟨by exact zf BK319 NB319_323⟩, ⟨by exact zp BK323 rfl⟩, ⟨by exact zbo HB GE323⟩⟩)
         ·rw [if_neg c18] at H
          exact absurd H (by simp)
        ·rw [if_neg c16] at H
         have c16b0 : decide (x22_2 < a0) = false := decide_eq_false c16
         clear c16
         have H' := Aside0.mk H
         clear H
         go_wp2
         first | go_roundg k2 | ((try subst hji4); go_roundg k2)
         case measure => have := HK1.out; have := HK2.out; omega
         case rel => first | (exact ⟨(wrap64 (x18_1 + 1)), (x324002_2), (u324002), (by first | rfl | (simp; done) | (simp [*]; done)), H', ⟨by have := HK1.out; have := HK2.out; omega⟩, ⟨by exact zr0 HO_324002⟩, ⟨by exact zk0 BK318⟩, ⟨by exact zk0 BK319⟩, ⟨by exact zk0 BK323⟩, ⟨by exact zb0 HB⟩⟩) | (exact ⟨(wrap64 (x18_1 + 1)), (x324002_2), (u324002), (by first | rfl | (simp; done) | (simp [*]; done)), H', ⟨by have := HK1.out; have := HK2.out; omega⟩, ⟨by exact zr0 HO_324002⟩, ⟨by exact zk0 BK318⟩, ⟨by exact zk0 BK319⟩, ⟨by exact zk0 BK323⟩, ⟨by exact zb0 HB⟩⟩)
     ·rw [if_neg c15] at H
      have c15b0 : decide (x18_1 < a1) = false := decide_eq_false c15
      clear c15
      simp only [Option.some.injEq, Prod.mk.injEq] at H
      obtain ⟨rfl, rfl, rfl⟩ := H
      have hnb24 := NB323_318.out
      have hnc24 := NB318_323.out
      have hnb25 := NB323_319.out
      have hnc25 := NB319_323.out
      obtain ⟨hcz26_0, hcz26_1, hcz26_2, hfz26_0, hfz26_1, hfz26_2⟩ := zq3 BK323
      have hnb27 := NB319_318.out
      have hnc27 := NB318_319.out
      obtain ⟨hcz28_0, hcz28_1, hcz28_2, hfz28_0, hfz28_1, hfz28_2⟩ := zq3 BK319
      obtain ⟨Ao29, co29, eo29⟩ := Kd.R_slice HO_324002.out
      subst eo29
      go_wp2
      refine bodyPost_ret (results_cell_row rfl _ _ gb319 24 #[.int .i64 a0, .int .i64 a1, .slice Ao29 x324002_1.length co29] (0, 0) _ rfl (by exact zp BK319 rfl) Try.underlying24 rfl (by kernel_rfl)) rfl ?_
      exact ⟨_, by first | rfl | (simp [errW_none, errW_some] <;> rfl) | (simp only [← hji4]; first | rfl | (simp [errW_none, errW_some] <;> rfl)) | (simp [*, errW_none, errW_some] <;> rfl), by exact zro HO_324002 BK319 (by decide), by exact zbo HB GE319⟩
  ·rw [if_neg c6] at H
   exact absurd H (by simp)
 ·rw [if_neg c5] at H
  exact absurd H (by simp)

/-! ### raster_fill__raster_Flip_3: function 40 -/
mutual
def raster_fill__raster_Flip_3.l0 : Nat → Int → Int → Int → Int → Int → List (S26) → Int → Int → List (S26) → Option (Int × Int × (List (S26)))
 | 0, _, _, _, _, _, _, _, _, _ => none
 | k + 1, x0, x17, x18, x332000, x332001, x332002, x337000, x337001, x337002 => if x18 < x17 then (raster_fill__raster_Flip_3.l1 k x0 x18 x17 x18 x0 0 x332000 x332001 x332002 x337000 x337001 x337002) else (some (x337000, x337001, x337002))
def raster_fill__raster_Flip_3.l1 : Nat → Int → Int → Int → Int → Int → Int → Int → Int → List (S26) → Int → Int → List (S26) → Option (Int × Int × (List (S26)))
 | 0, _, _, _, _, _, _, _, _, _, _, _, _ => none
 | k + 1, x0, x8, x17, x18, x21, x22, x332000, x332001, x332002, x337000, x337001, x337002 => if x22 < x21 then ((raster_Flip_3.f x22 x8 x332000 x332001 x332002).bind fun bt337 => (if x337002.length < 4398046511104 then (raster_fill__raster_Flip_3.l1 k x0 x8 x17 x18 x21 (wrap64 (x22 + 1)) x332000 x332001 x332002 x337000 x337001 (x337002 ++ [(⟨bt337.1, bt337.2.1, bt337.2.2.1, bt337.2.2.2⟩ : S26)])) else (none))) else (raster_fill__raster_Flip_3.l0 k x0 x17 (wrap64 (x18 + 1)) x332000 x332001 x332002 x337000 x337001 x337002)
end
def raster_fill__raster_Flip_3.f (k : Nat) (a0 : Int) (a1 : Int) (a2_0 : Int) (a2_1 : Int) (l2_2 : List (S26)) : Option (Int × Int × (List (S26))) := if 0 ≤ (wrap64 (a0 * a1)) then (if (wrap64 (a0 * a1) : Int).toNat ≤ 8796093022208 then (raster_fill__raster_Flip_3.l0 k a0 a1 0 a2_0 a2_1 l2_2 a0 a1 (([] : List (S26)))) else (none)) else (none)
theorem raster_fill__raster_Flip_3.mono_l : ∀ k, (∀ y0 y1 y2 y3 y4 y5 y6 y7 y8, LeO (raster_fill__raster_Flip_3.l0 k y0 y1 y2 y3 y4 y5 y6 y7 y8) (raster_fill__raster_Flip_3.l0 (k + 1) y0 y1 y2 y3 y4 y5 y6 y7 y8)) ∧ (∀ y0 y1 y2 y3 y4 y5 y6 y7 y8 y9 y10 y11, LeO (raster_fill__raster_Flip_3.l1 k y0 y1 y2 y3 y4 y5 y6 y7 y8 y9 y10 y11) (raster_fill__raster_Flip_3.l1 (k + 1) y0 y1 y2 y3 y4 y5 y6 y7 y8 y9 y10 y11))
 | 0 => ⟨fun _ _ _ _ _ _ _ _ _ r h => by simp [raster_fill__raster_Flip_3.l0] at h, fun _ _ _ _ _ _ _ _ _ _ _ _ r h => by simp [raster_fill__raster_Flip_3.l1] at h⟩
 | k + 1 => by
  obtain ⟨ih0, ih1⟩ := raster_fill__raster_Flip_3.mono_l k
  refine ⟨?_, ?_⟩
  ·intro y0 y1 y2 y3 y4 y5 y6 y7 y8
   unfold raster_fill__raster_Flip_3.l0
   repeat' first
   | (with_reducible exact ih0 _ _ _ _ _ _ _ _ _)
   | (with_reducible exact ih1 _ _ _ _ _ _ _ _ _ _ _ _)
   | (with_reducible exact LeO.refl _)
   | (with_reducible exact LeO.none _)
   | (with_reducible refine LeO.ite ?_ ?_)
   | (with_reducible refine LeO.bind ?_ (fun _ => ?_))
   | exact ih0 _ _ _ _ _ _ _ _ _
   | exact ih1 _ _ _ _ _ _ _ _ _ _ _ _
   | exact LeO.none _
   | refine LeO.ite ?_ ?_
   | refine LeO.bind ?_ (fun _ => ?_)
  ·intro y0 y1 y2 y3 y4 y5 y6 y7 y8 y9 y10 y11
   unfold raster_fill__raster_Flip_3.l1
   repeat' first
   | (with_reducible exact ih0 _ _ _ _ _ _ _ _ _)
   | (with_reducible exact ih1 _ _ _ _ _ _ _ _ _ _ _ _)
   | (with_reducible exact LeO.refl _)
   | (with_reducible exact LeO.none _)
   | (with_reducible refine LeO.ite ?_ ?_)
   | (with_reducible refine LeO.bind ?_ (fun _ => ?_))
   | exact ih0 _ _ _ _ _ _ _ _ _
   | exact ih1 _ _ _ _ _ _ _ _ _ _ _ _
   | exact LeO.none _
   | refine LeO.ite ?_ ?_
   | refine LeO.bind ?_ (fun _ => ?_)
theorem raster_fill__raster_Flip_3.mono : ∀ a0 a1 a2 a3 a4 k, LeO (raster_fill__raster_Flip_3.f k a0 a1 a2 a3 a4) (raster_fill__raster_Flip_3.f (k + 1) a0 a1 a2 a3 a4) := by
 intro a0 a1 a2 a3 a4 k
 obtain ⟨ih0, ih1⟩ := raster_fill__raster_Flip_3.mono_l k
 unfold raster_fill__raster_Flip_3.f
 repeat' first
   | (with_reducible exact ih0 _ _ _ _ _ _ _ _ _)
   | (with_reducible exact ih1 _ _ _ _ _ _ _ _ _ _ _ _)
   | (with_reducible exact LeO.refl _)
   | (with_reducible exact LeO.none _)
   | (with_reducible refine LeO.ite ?_ ?_)
   | (with_reducible refine LeO.bind ?_ (fun _ => ?_))
   | exact ih0 _ _ _ _ _ _ _ _ _
   | exact ih1 _ _ _ _ _ _ _ _ _ _ _ _
   | exact LeO.none _
   | refine LeO.ite ?_ ?_
   | refine LeO.bind ?_ (fun _ => ?_)
def raster_fill__raster_Flip_3.T8 : Bool × List (List Nat × List Nat) := (true, [([], []), ([0], [0]), ([], []), ([], []), ([], []), ([2, 3, 4], [2, 3, 4]), ([5], [5]), ([1, 6, 5], [1, 6]), ([0, 1, 2, 3, 4, 5, 6, 7], []), ([8, 7, 7, 0, 1, 2, 3, 4, 5, 6, 7], [7, 8])])
def raster_fill__raster_Flip_3.B8 : List Nat := [0, 1, 0, 0, 0, 28, 60, 127, 255, 511]
theorem raster_fill__raster_Flip_3.tab8 : rtab .any (opsOf Try.f40 8) = raster_fill__raster_Flip_3.T8 := by kernel_rfl
theorem raster_fill__raster_Flip_3.bits8 : waitsOk raster_fill__raster_Flip_3.T8.2 raster_fill__raster_Flip_3.B8 = true := by kernel_rfl
set_option maxHeartbeats 8000000 in
set_option maxRecDepth 100000 in
theorem raster_fill__raster_Flip_3.calls (k : Nat) (a0 : Int) (a1 : Int) (gc2_0 : Nat) (a2_0 : Int) (a2_1 : Int) (A2_2 : Option Addr) (c2_2 : Nat) (l2_2 : List (S26)) (r1 : Int) (r2 : Int) (r3 : List (S26)) (w : World) (hp2_0 : w.heap[gc2_0]? = some (.cells #[.int .i64 a2_0, .int .i64 a2_1, .slice A2_2 l2_2.length c2_2] 24 (0, 0))) (hr2_2 : Kd.C k26 w A2_2 l2_2.length l2_2) (hc2_2 : l2_2.length ≤ c2_2) (h : raster_fill__raster_Flip_3.f k a0 a1 a2_0 a2_1 l2_2 = some (r1, r2, r3)) :
  Calls Try.prog 40 #[.int .i64 a0, .int .i64 a1, .func (.func 53) #[] #[.pointer (some ⟨gc2_0, 0, none⟩)]] w fun e w' => ∃ v2_ : Value, e = .returned (.agg #[.int .i64 r1, .int .i64 r2, v2_]) ∧ Kd.R k26 26 w' w.heap.size (fun _ => True) v2_ r3 ∧ Below w.heap.size w w' := by
 have hu24 := Try.underlying24
 have HR2_2 := Aside0.mk hr2_2
 have HC2_2 := Aside0.mk hc2_2
 clear hr2_2 hc2_2
 have BK331 := Aside0.mk hp2_0
 have GL331 := Aside0.mk (show gc2_0 < w.heap.size from blk_lt hp2_0)
 clear hp2_0
 have HB := Aside0.mk (Below.refl w.heap.size w)
 have H : (if 0 ≤ (wrap64 (a0 * a1)) then (if (wrap64 (a0 * a1) : Int).toNat ≤ 8796093022208 then (raster_fill__raster_Flip_3.l0 k a0 a1 0 a2_0 a2_1 l2_2 a0 a1 (([] : List (S26)))) else (none)) else (none)) = some (r1, r2, r3) := h
 clear h
 obtain ⟨ji4, hji4⟩ : ∃ j_ : Int, (wrap64 (a0 * a1)) = j_ := ⟨_, rfl⟩
 replace H : (if 0 ≤ (ji4) then (if (ji4 : Int).toNat ≤ 8796093022208 then (raster_fill__raster_Flip_3.l0 k a0 a1 0 a2_0 a2_1 l2_2 a0 a1 (([] : List (S26)))) else (none)) else (none)) = some (r1, r2, r3) := by first | (rw [hji4] at H; exact H) | (simp only [hji4] at H ⊢; exact H)
 have hji4w : (IntKind.i64.wrap (a0 * a1)) = ji4 := (i64_w _).trans hji4
 by_cases c5 : 0 ≤ (ji4)
 ·rw [if_pos c5] at H
  have c5b0 := eq_true c5
  have c5b1 : decide (0 ≤ (ji4)) = true := decide_eq_true c5
  clear c5
  by_cases c6 : (ji4 : Int).toNat ≤ 8796093022208
  ·rw [if_pos c6] at H
   have c6b0 := eq_true c6
   have c6b1 : decide ((ji4 : Int).toNat ≤ 8796093022208) = true := decide_eq_true c6
   clear c6
   obtain ⟨y333, hy333⟩ : ∃ y_ : List (S26), y_ = (([] : List (S26))) := ⟨_, rfl⟩
   replace H : (raster_fill__raster_Flip_3.l0 k a0 a1 0 a2_0 a2_1 l2_2 a0 a1 y333) = some (r1, r2, r3) := by first | (rw [hy333]; with_reducible exact H) | (have H2_ := (Option.bind_some _ _).symm.trans H; rw [hy333]; with_reducible exact H2_) | (have H2_ := (Option.bind_some _ _).symm.trans H; with_reducible exact H2_) | with_reducible exact H | (rw [hy333]; exact H) | exact H
   have Ny333 := Aside0.mk hy333
   clear hy333
   have H' := Aside0.mk H
   clear H
   go_enter Try.func40, Try.ntmps40
   go_wp2_with (first | ((with_reducible refine gate_dst (N := 6) rfl ?_); refine box_event ?hg (N := 6) ?hd (cs := #[.int .i64 0, .int .i64 0, .slice none 0 0]) (t := 24) ?hr ?_; (case hd => rfl); (case hg => rfl); (case hr => first | (go_simp; done) | (go_simp; rfl)); intro gb332 hg w7 hbox hb; have GW332 := zg HB hg; have GE332 := zg HB hg; have NB331_332 := zn BK331 hg; have NB332_331 := zn' BK331 hg; have n0_ := Aside0.mk (hbox); replace BK331 := zk BK331 hb; replace HB := zb HB hb; have BK332 := n0_; clear n0_; clear hb hbox hg) | ((with_reducible refine gate_dst (N := 15) rfl ?_); refine Kd.R_make0 k26 _ 26 rfl (N := 15) rfl 22 _ _ rfl ji4 rfl rfl Try.underlying22 (.agg #[(.int .i64 0), (.int .i64 0), (.int .i64 0), (.int .i64 0)]) 32 info26 rfl (by decide) (by omega) z26 (ok := fun _ => True) (okp := fun _ => True) (k26_mkM _ _ _ z26 ) (fun _ hk => hk) trivial (of_decide_eq_true (by first | (with_reducible assumption) | assumption)) (Nat.le_trans (Nat.mul_le_mul_right _ (of_decide_eq_true (by first | (with_reducible assumption) | assumption) : ji4.toNat ≤ 8796093022208)) (by omega)) (Below.refl _ _) (Nat.le_refl _) ?_; intro v334 w8 ho9 hb hg_ hnew_; clear hg_ hnew_; (first | rw [← Ny333.out] at ho9 | (simp only [Int.reduceToNat] at ho9; rw [← Ny333.out] at ho9)); have HO335 := zl HB ho9; replace BK331 := zk BK331 hb; replace BK332 := zk BK332 hb; replace HB := zb HB hb; clear hb ho9; obtain ⟨Ao10, co10, eo10⟩ := Kd.R_slice HO335.out; subst eo10) | ((with_reducible refine gate_dst (N := 7) rfl ?_); refine box_event ?hg (N := 7) ?hd (cs := #[.int .i64 0, .int .i64 0, .slice none 0 0]) (t := 24) ?hr ?_; (case hd => rfl); (case hg => rfl); (case hr => first | (go_simp; done) | (go_simp; rfl)); intro gb336 hg w11 hbox hb; have GW336 := zg HB hg; have GE336 := zg HB hg; have NB331_336 := zn BK331 hg; have NB336_331 := zn' BK331 hg; have NB332_336 := zn BK332 hg; have NB336_332 := zn' BK332 hg; have n0_ := Aside0.mk (hbox); replace HO335 := zr HO335 hb; replace BK331 := zk BK331 hb; replace BK332 := zk BK332 hb; replace HB := zb HB hb; have BK336 := n0_; clear n0_; clear hb hbox hg; have hnb12 := NB336_331.out; have hnc12 := NB331_336.out; have hnb13 := NB336_332.out; have hnc13 := NB332_336.out; obtain ⟨hcz14_0, hcz14_1, hcz14_2, hfz14_0, hfz14_1, hfz14_2⟩ := zq3 BK336))
   (try simp only [Act.put, sA, sB, sC])
   go_loopg [18] k (fun kq v18 w' => ∃ (x18_1 : Int) (x337002_1 : List (S26)) (u337002 : Value), v18 = .int .i64 x18_1 ∧ Aside0 (raster_fill__raster_Flip_3.l0 kq a0 a1 x18_1 a2_0 a2_1 l2_2 a0 a1 x337002_1 = some (r1, r2, r3)) ∧ Aside0 (kq ≤ k) ∧ Aside0 (Kd.R k26 26 w' w.heap.size (fun _ => True) u337002 x337002_1) ∧ Aside0 (w'.heap[gc2_0]? = some (.cells #[.int .i64 a2_0, .int .i64 a2_1, (.slice A2_2 l2_2.length c2_2)] 24 (0, 0))) ∧ Aside0 (w'.heap[gb332]? = some (.cells #[.int .i64 0, .int .i64 0, (.slice none 0 0)] 24 (0, 0))) ∧ Aside0 (w'.heap[gb336]? = some (.cells #[.int .i64 a0, .int .i64 a1, u337002] 24 (0, 0))) ∧ Aside0 (Below w.heap.size w w'))
   case atStart => exact ⟨(0), (y333), (.slice Ao10 y333.length co10), (by first | rfl | (simp; done) | (simp [*]; done)), H', ⟨Nat.le_refl _⟩, ⟨by exact zro HO335 BK336 (by decide)⟩, ⟨by exact zf BK331 NB331_336⟩, ⟨by exact zf BK332 NB332_336⟩, ⟨by exact zp BK336 rfl⟩, ⟨by exact zbo HB GE336⟩⟩
   case round =>
    clear H'
    try clear c1
    try clear c2
    try clear p2
    try clear q3
    try clear c4
    try clear c5
    try clear c5b0
    try clear c5b1
    try clear c6
    try clear c6b0
    try clear c6b1
    try clear p6
    try clear c12
    try clear c13
    try clear hcz14_0
    try clear hcz14_1
    try clear hcz14_2
    try clear hfz14_0
    try clear hfz14_1
    try clear hfz14_2
    obtain ⟨x18_1, x337002_1, u337002, rfl, HA, HK1, HO_337002, BK331, BK332, BK336, HB⟩ := hrel
    cases gk with
    | zero => exact absurd HA.out (by simp [raster_fill__raster_Flip_3.l0])
    | succ k1 =>
     have H := HA.out
     clear HA
     simp only [raster_fill__raster_Flip_3.l0] at H
     by_cases c15 : x18_1 < a1
     ·rw [if_pos c15] at H
      have c15b0 : decide (x18_1 < a1) = true := decide_eq_true c15
      clear c15
      have H' := Aside0.mk H
      clear H
      go_wp2
      go_loopg [22] k1 (fun kq v22 w' => ∃ (x22_2 : Int) (x337002_2 : List (S26)) (u337002 : Value), v22 = .int .i64 x22_2 ∧ Aside0 (raster_fill__raster_Flip_3.l1 kq a0 x18_1 a1 x18_1 a0 x22_2 a2_0 a2_1 l2_2 a0 a1 x337002_2 = some (r1, r2, r3)) ∧ Aside0 (kq ≤ k1) ∧ Aside0 (Kd.R k26 26 w' w.heap.size (fun _ => True) u337002 x337002_2) ∧ Aside0 (w'.heap[gc2_0]? = some (.cells #[.int .i64 a2_0, .int .i64 a2_1, (.slice A2_2 l2_2.length c2_2)] 24 (0, 0))) ∧ Aside0 (w'.heap[gb332]? = some (.cells #[.int .i64 0, .int .i64 0, (.slice none 0 0)] 24 (0, 0))) ∧ Aside0 (w'.heap[gb336]? = some (.cells #[.int .i64 a0, .int .i64 a1, u337002] 24 (0, 0))) ∧ Aside0 (Below w.heap.size w w'))
      case atStart => exact ⟨(0), (x337002_1), (u337002), (by first | rfl | (simp; done) | (simp [*]; done)), H', ⟨Nat.le_refl _⟩, ⟨by exact zr0 HO_337002⟩, ⟨by exact zk0 BK331⟩, ⟨by exact zk0 BK332⟩, ⟨by exact zk0 BK336⟩, ⟨by exact zb0 HB⟩⟩
      case round =>
       clear H'
       try clear c1
       try clear c2
       try clear p2
       try clear q3
       try clear c4
       try clear c5
       try clear c5b0
       try clear c5b1
       try clear c6
       try clear c6b0
       try clear c6b1
       try clear p6
       try clear c12
       try clear c13
       try clear c15
       try clear c15b0
       try clear hcz14_0
       try clear hcz14_1
       try clear hcz14_2
       try clear hfz14_0
       try clear hfz14_1
       try clear hfz14_2
       try clear p2
       try clear p6
       try clear q3
       obtain ⟨x22_2, x337002_2, u337002, rfl, HA, HK2, HO_337002, BK331, BK332, BK336, HB⟩ := hrel
       cases gk with
       | zero => exact absurd HA.out (by simp [raster_fill__raster_Flip_3.l1])
       | succ k2 =>
        have H := HA.out
        clear HA
        simp only [raster_fill__raster_Flip_3.l1] at H
        by_cases c16 : x22_2 < a0
        ·rw [if_pos c16] at H
         have c16b0 : decide (x22_2 < a0) = true := decide_eq_true c16
         clear c16
         replace H := Option.bind_eq_some_iff.mp H
         obtain ⟨⟨t337, t338, t339, t340⟩, A170, H⟩ := H
         replace H : (if x337002_2.length < 4398046511104 then (raster_fill__raster_Flip_3.l1 k2 a0 x18_1 a1 x18_1 a0 (wrap64 (x22_2 + 1)) a2_0 a2_1 l2_2 a0 a1 (x337002_2 ++ [(⟨t337, t338, t339, t340⟩ : S26)])) else (none)) = some (r1, r2, r3) := H
         have A17 := Aside0.mk A170
         clear A170
         by_cases c18 : x337002_2.length < 4398046511104
         ·rw [if_pos c18] at H
          have LMc18 := Aside0.mk c18
          clear c18
          obtain ⟨y341, hy341⟩ : ∃ y_ : List (S26), y_ = (x337002_2 ++ [(⟨t337, t338, t339, t340⟩ : S26)]) := ⟨_, rfl⟩
          replace H : (raster_fill__raster_Flip_3.l1 k2 a0 x18_1 a1 x18_1 a0 (wrap64 (x22_2 + 1)) a2_0 a2_1 l2_2 a0 a1 y341) = some (r1, r2, r3) := by first | (rw [hy341]; with_reducible exact H) | (have H2_ := (Option.bind_some _ _).symm.trans H; rw [hy341]; with_reducible exact H2_) | (have H2_ := (Option.bind_some _ _).symm.trans H; with_reducible exact H2_) | with_reducible exact H | (rw [hy341]; exact H) | exact H
          have Ny341 := Aside0.mk hy341
          clear hy341
          have H' := Aside0.mk H
          clear H
          try go_wp2
          replace HO_337002 := zrd HO_337002
          replace BK331 := zkd BK331
          replace BK332 := zkd BK332
          replace BK336 := zkd BK336
          replace HB := zbd HB
          refine start_ (n := 10) (S := fun w' => w'.cell? ⟨gb336, 0, none⟩ = some (.int .i64 a0) ∧ w'.cell? ⟨gb336, 1, none⟩ = some (.int .i64 a1) ∧ w'.cell? ⟨gb336, 2, none⟩ = some (u337002)) (ds := [9]) (bs 10 0) (by kernel_rfl) rfl rfl ⟨(blk_cell BK336.out 0).trans rfl, (blk_cell BK336.out 1).trans rfl, (blk_cell BK336.out 2).trans rfl⟩ (fun hHeld => ?_); refine with_tabW raster_fill__raster_Flip_3.tab8 raster_fill__raster_Flip_3.bits8 (fun HT_ HW_ => ?_)
          generalize wr.drew = w19 at HO_337002 BK331 BK332 BK336 HB hHeld ⊢
          refine pure_ (i := 0) (N := some 25) (v := ?_) (a' := ?_) (bs 10 1) rfl rfl (any_of HT_.out (by kernel_rfl)) (fun _ _ _ h => h) (Or.inl ⟨by rfl, ?_⟩) ?_ ?_
          rotate_left
          ·intro w'
           go_simp
           with_reducible rfl
          rotate_left
          ·simp only [Act.put, sA, sB, sC, i64_w, i32_w]
           rfl
          refine pure_ (i := 2) (N := some 27) (v := ?_) (a' := ?_) (bs 10 5) rfl rfl (any_of HT_.out (by kernel_rfl)) (fun _ _ _ h => h) (Or.inl ⟨by rfl, ?_⟩) ?_ ?_
          rotate_left
          ·intro w'
           go_simp
           with_reducible rfl
          rotate_left
          ·simp only [Act.put, sA, sB, sC, i64_w, i32_w]
           rfl
          refine pure_ (i := 3) (N := some 28) (v := ?_) (a' := ?_) (bs 10 13) rfl rfl (any_of HT_.out (by kernel_rfl)) (fun _ _ _ h => h) (Or.inl ⟨by rfl, ?_⟩) ?_ ?_
          rotate_left
          ·intro w'
           go_simp
           with_reducible rfl
          rotate_left
          ·simp only [Act.put, sA, sB, sC, i64_w, i32_w]
           rfl
          refine pure_ (i := 4) (N := some 29) (v := ?_) (a' := ?_) (bs 10 29) rfl rfl (any_of HT_.out (by kernel_rfl)) (fun _ _ _ h => h) (Or.inl ⟨by rfl, ?_⟩) ?_ ?_
          rotate_left
          ·intro w'
           go_simp
           with_reducible rfl
          rotate_left
          ·simp only [Act.put, sA, sB, sC, i64_w, i32_w]
           rfl
          refine take_ (i := 1) (N := some 26) (v := ?_) (a' := ?_) (bs 10 31) rfl rfl (take_ofW HT_.out HW_.out (by kernel_rfl)) (fun _ _ _ h => h) (Or.inl ⟨by rfl, ?_⟩) hHeld ?_ ?_
          rotate_left
          ·rintro w' ⟨s0, s1, s2⟩
           go_simp
           with_reducible rfl
          rotate_left
          ·simp only [Act.put, sA, sB, sC, i64_w, i32_w]
           rfl
          refine one_ (i := 5) (N := some 30) (bs 10 63) rfl rfl (one_of HT_.out (by kernel_rfl)) (by decide) (fun K hK => ?_)
          refine goesT_ (t := 27) Try.func53 (by kernel_rfl) rfl #[.pointer (some ⟨gc2_0, 0, none⟩)] #[.int .i64 x22_2, .int .i64 x18_1, .pointer (some ⟨gc2_0, 0, none⟩)] (by rfl) rfl rfl (by first | rfl | (go_simp; done) | (go_simp; rfl)) (by (try simp only [List.map_toArray, List.map_cons, List.map_nil]); first | done | rfl | (go_simp; done) | (go_simp; rfl)) ?_
          with_reducible refine (raster_Flip_3.calls x22_2 x18_1 gc2_0 a2_0 a2_1 A2_2 c2_2 l2_2 t337 t338 t339 t340 _ ?side1 ?side2 ?side3 A17.out).mono ?_
          (case side1 => exact zk0 BK331)
          (case side2 => repeat (first | exact (Kd.C_below HR2_2.out HB.out) | (with_reducible refine Kd.C_alloc ?_ _) | (with_reducible refine Kd.C_drewN ?_ _) | (with_reducible refine Kd.C_drew ?_)))
          (case side3 => exact HC2_2.out)
          rintro e w20 ⟨rfl, hb⟩
          refine ⟨_, rfl, ?_⟩
          replace HO_337002 := zr HO_337002 hb
          replace BK331 := zk BK331 hb
          replace BK332 := zk BK332 hb
          replace BK336 := zk BK336 hb
          replace HB := zb HB hb
          (try clear hb)
          (try clear hb2)
          (try clear hk)
          (try clear hi)
          refine hK.out _ _ ⟨(blk_cell BK336.out 0).trans rfl, (blk_cell BK336.out 1).trans rfl, (blk_cell BK336.out 2).trans rfl⟩ (fun hHeld => ?_)
          clear hK K
          refine norm_ (a' := ?_) ?_ ?_
          rotate_left
          ·show Act.put _ (some 30) _ = _
           simp only [Act.put, sA, sB, sC, i64_w, i32_w]
           rfl
          refine one_ (i := 6) (N := some 31) (bs 10 127) rfl rfl (one_of HT_.out (by kernel_rfl)) (by decide) (fun K hK => ?_)
          refine value_ (w1 := ?_) (v := ?_) (by rfl) rfl ?_ ?_
          rotate_left 2
          ·go_simp
           constructor
           ·rfl
           ·rfl
          refine hK.out _ _ ⟨(blk_cell (blk_alloc BK336.out _) 0).trans rfl, (blk_cell (blk_alloc BK336.out _) 1).trans rfl, (blk_cell (blk_alloc BK336.out _) 2).trans rfl⟩ (fun hHeld => ?_)
          clear hK K
          refine norm_ (a' := ?_) ?_ ?_
          rotate_left
          ·show Act.put _ (some 31) _ = _
           simp only [Act.put, sA, sB, sC, i64_w, i32_w]
           rfl
          refine one_ (i := 7) (N := some 32) (bs 10 255) rfl rfl (one_of HT_.out (by kernel_rfl)) (by decide) (fun K hK => ?_)
          refine Kd.R_append_step k26 (w0 := w) w.heap.size (by rfl) (.tmp 26) (.tmp 31) 22 26 (.agg #[(.int .i64 0), (.int .i64 0), (.int .i64 0), (.int .i64 0)]) 32 rfl Try.underlying22 info26 rfl (by decide) (by omega) u337002 x337002_2 (⟨t337, t338, t339, t340⟩ : S26) [.int .i64 t337, .int .i64 t338, .int .i64 t339, .int .i64 t340] (fun _ => True) (fun _ => False) rfl rfl ?aP (fun _ hk => hk.elim) ?aF ?aO ?aB ?aS ?aL ?_
          (case aP => exact k26_mkM _ _ _ (⟨t337, t338, t339, t340⟩ : S26))
          (case aB => exact (by exact zb0 HB))
          (case aF => exact (fun _ _ => trivial))
          (case aO => exact (by exact zr0 HO_337002))
          (case aS => exact (below_size (by exact zb0 HB)))
          (case aL => have := LMc18.out; omega)
          intro v342 w21 ho hb hg hat
          rw [← Ny341.out] at ho
          have n0_ := Aside0.mk (blk_grown (zk0 BK331) hg (fun e_ => Nat.not_le.2 GL331.out (Kd.R_base HO_337002.out _ e_.symm)))
          have n1_ := Aside0.mk (blk_grown (zk0 BK332) hg (Kd.R_ne HO_337002.out BK332.out (by decide)))
          have n2_ := Aside0.mk (blk_grown (zk0 BK336) hg (Kd.R_ne HO_337002.out BK336.out (by decide)))
          have n3_ := Aside0.mk (hb)
          have n4_ := Aside0.mk (ho)
          clear BK331
          clear BK332
          clear BK336
          clear HB
          clear HO_337002
          have BK331 := n0_
          have BK332 := n1_
          have BK336 := n2_
          have HB := n3_
          have HO343 := n4_
          clear n0_ n1_ n2_ n3_ n4_
          clear ho hb hg hat
          obtain ⟨Ao22, co22, eo22⟩ := Kd.R_slice HO343.out
          (first | subst eo22 | (injection eo22 with f1_ f2_ f3_; have f4_ := f1_.symm; have f5_ := f3_.symm; clear f1_ f2_ f3_; subst f4_; subst f5_))
          refine hK.out _ _ ⟨(blk_cell BK336.out 0).trans rfl, (blk_cell BK336.out 1).trans rfl, (blk_cell BK336.out 2).trans rfl⟩ (fun hHeld => ?_)
          clear hK K
          refine norm_ (a' := ?_) ?_ ?_
          rotate_left
          ·show Act.put _ (some 32) _ = _
           simp only [Act.put, sA, sB, sC, i64_w, i32_w]
           rfl
          refine pure_ (i := 8) (N := some 33) (v := ?_) (a' := ?_) (bs 10 511) rfl rfl (any_of HT_.out (by kernel_rfl)) (fun _ _ _ h => h) (Or.inl ⟨by rfl, ?_⟩) ?_ ?_
          rotate_left
          ·intro w'
           go_simp
           with_reducible rfl
          rotate_left
          ·simp only [Act.put, sA, sB, sC, i64_w, i32_w]
           rfl
          refine last_ (i := 9) (N := none) (bs 10 1023) rfl rfl (one_of HT_.out (by kernel_rfl)) (by decide) (fun K hK => ?_)
          have hs23 : w21.cell? ⟨gb336, 2, none⟩ = some (u337002) := (blk_cell BK336.out 2).trans rfl
          have hfs23 := blk_frozen BK336.out 2
          have hns23_0 := NB331_336.out
          have hns23_1 := NB332_336.out
          have hms23_0 := NB336_331.out
          have hms23_1 := NB336_332.out
          refine skip_ (w1 := ?_) (by rfl) rfl ?_ ?_
          rotate_left
          ·go_simp
           rfl
          refine hK.out _ _ ?_
          clear hK K
          refine done_ (done_of HT_.out (by kernel_rfl)) ?_
          try go_wp2
          first | go_roundg k2 | ((try subst hji4); go_roundg k2)
          case measure => have := HK1.out; have := HK2.out; omega
          case rel => first | (exact ⟨(wrap64 (x22_2 + 1)), (y341), (.slice Ao22 y341.length co22), (by first | rfl | (simp; done) | (simp [*]; done)), H', ⟨by have := HK1.out; have := HK2.out; omega⟩, ⟨by exact zro HO343 BK336 (by decide)⟩, ⟨by exact zf BK331 NB331_336⟩, ⟨by exact zf BK332 NB332_336⟩, ⟨by exact zp BK336 rfl⟩, ⟨by exact zbo HB GE336⟩⟩) | (exact ⟨(wrap64 (x22_2 + 1)), (y341), (.slice Ao22 y341.length co22), (by first | rfl | (simp; done) | (simp [*]; done)), H', ⟨by have := HK1.out; have := HK2.out; omega⟩, ⟨by exact zro HO343 BK336 (by decide)⟩, ⟨by exact zf BK331 NB331_336⟩, ⟨by exact zf BK332 NB332_336⟩, ⟨by exact zp BK336 rfl⟩, ⟨by exact zbo HB GE336⟩⟩)
         ·rw [if_neg c18] at H
          exact absurd H (by simp)
        ·rw [if_neg c16] at H
         have c16b0 : decide (x22_2 < a0) = false := decide_eq_false c16
         clear c16
         have H' := Aside0.mk H
         clear H
         go_wp2
         first | go_roundg k2 | ((try subst hji4); go_roundg k2)
         case measure => have := HK1.out; have := HK2.out; omega
         case rel => first | (exact ⟨(wrap64 (x18_1 + 1)), (x337002_2), (u337002), (by first | rfl | (simp; done) | (simp [*]; done)), H', ⟨by have := HK1.out; have := HK2.out; omega⟩, ⟨by exact zr0 HO_337002⟩, ⟨by exact zk0 BK331⟩, ⟨by exact zk0 BK332⟩, ⟨by exact zk0 BK336⟩, ⟨by exact zb0 HB⟩⟩) | (exact ⟨(wrap64 (x18_1 + 1)), (x337002_2), (u337002), (by first | rfl | (simp; done) | (simp [*]; done)), H', ⟨by have := HK1.out; have := HK2.out; omega⟩, ⟨by exact zr0 HO_337002⟩, ⟨by exact zk0 BK331⟩, ⟨by exact zk0 BK332⟩, ⟨by exact zk0 BK336⟩, ⟨by exact zb0 HB⟩⟩)
     ·rw [if_neg c15] at H
      have c15b0 : decide (x18_1 < a1) = false := decide_eq_false c15
      clear c15
      simp only [Option.some.injEq, Prod.mk.injEq] at H
      obtain ⟨rfl, rfl, rfl⟩ := H
      have hnb24 := NB336_331.out
      have hnc24 := NB331_336.out
      have hnb25 := NB336_332.out
      have hnc25 := NB332_336.out
      obtain ⟨hcz26_0, hcz26_1, hcz26_2, hfz26_0, hfz26_1, hfz26_2⟩ := zq3 BK336
      have hnb27 := NB332_331.out
      have hnc27 := NB331_332.out
      obtain ⟨hcz28_0, hcz28_1, hcz28_2, hfz28_0, hfz28_1, hfz28_2⟩ := zq3 BK332
      obtain ⟨Ao29, co29, eo29⟩ := Kd.R_slice HO_337002.out
      subst eo29
      go_wp2
      refine bodyPost_ret (results_cell_row rfl _ _ gb332 24 #[.int .i64 a0, .int .i64 a1, .slice Ao29 x337002_1.length co29] (0, 0) _ rfl (by exact zp BK332 rfl) Try.underlying24 rfl (by kernel_rfl)) rfl ?_
      exact ⟨_, by first | rfl | (simp [errW_none, errW_some] <;> rfl) | (simp only [← hji4]; first | rfl | (simp [errW_none, errW_some] <;> rfl)) | (simp [*, errW_none, errW_some] <;> rfl), by exact zro HO_337002 BK332 (by decide), by exact zbo HB GE332⟩
  ·rw [if_neg c6] at H
   exact absurd H (by simp)
 ·rw [if_neg c5] at H
  exact absurd H (by simp)

end Go.Proofs.Ytjepbimgddgijaa.G
