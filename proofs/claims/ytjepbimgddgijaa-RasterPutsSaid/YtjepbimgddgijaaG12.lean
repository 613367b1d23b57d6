-- Written by a program of this session (wip/gx.py over the kit's print); Lean checks it.
import Derived.Test.YtjepbimgddgijaaG0
import Derived.Test.YtjepbimgddgijaaG4
import Derived.Test.YtjepbimgddgijaaG11
namespace Go.Proofs.Ytjepbimgddgijaa.G
open Go.RowKit Go.Proofs.YtjepbimgddgijaaW.PrintWords Go.Proofs.YtjepbimgddgijaaW.PrintLast Go.Proofs.YtjepbimgddgijaaW.PrintMore
attribute [local go_sem] max2_int min2_int max_two min_two max_three min_three max_four min_four   -- for this text's walks alone
set_option linter.unusedVariables false
set_option linter.unusedSimpArgs false

/-! ### raster_Join: function 35 -/
mutual
def raster_Join.j0 : Nat → Int → Int → Bool → List (S24) → Option (Int × Int × (List (S26)) × Int)
 | 0, _, _, _, _ => none
 | k + 1, x0, x1, x26, x408000 => if x26 = true then (some (0, 0, ([] : List (S26)), 15)) else (if (x408000.length : Int) = (wrap64 ((wrap64 (Int.tdiv (wrap64 ((wrap64 (x0 + 16)) - 1)) 16)) * (wrap64 (Int.tdiv (wrap64 ((wrap64 (x1 + 16)) - 1)) 16)))) then (raster_Join.l0 k x0 x1 x408000 (x408000.length : Int) 0 x408000 (wrap64 (Int.tdiv (wrap64 ((wrap64 (x0 + 16)) - 1)) 16))) else (some (0, 0, ([] : List (S26)), 15)))
def raster_Join.l0 : Nat → Int → Int → List (S24) → Int → Int → List (S24) → Int → Option (Int × Int × (List (S26)) × Int)
 | 0, _, _, _, _, _, _, _ => none
 | k + 1, x0, x1, x43, x44, x45, x408000, x410000 => if x45 < x44 then (if 0 ≤ x45 then (if x45 < (x43.length : Int) then (if x410000 = 0 then (none) else (if ((rd_T24 x43 x45).f0) = (mn 16 (wrap64 (x0 - (wrap64 ((Int.tmod x45 x410000) * 16))))) then (raster_Join.j2 k x0 x1 x43 x44 x45 (((rd_T24 x43 x45).f1) != (mn 16 (wrap64 (x1 - (wrap64 ((wrap64 (Int.tdiv x45 x410000)) * 16)))))) x408000 x410000 ((rd_T24 x43 x45).f0) ((rd_T24 x43 x45).f1) ((rd_T24 x43 x45).f2)) else (raster_Join.j2 k x0 x1 x43 x44 x45 true x408000 x410000 ((rd_T24 x43 x45).f0) ((rd_T24 x43 x45).f1) ((rd_T24 x43 x45).f2)))) else (none)) else (none)) else ((raster_fill__raster_Join_1.f k x0 x1 x408000 x410000).bind fun bt410 => (some (bt410.1, bt410.2.1, bt410.2.2, 0)))
def raster_Join.j2 : Nat → Int → Int → List (S24) → Int → Int → Bool → List (S24) → Int → Int → Int → List (S26) → Option (Int × Int × (List (S26)) × Int)
 | 0, _, _, _, _, _, _, _, _, _, _, _ => none
 | k + 1, x0, x1, x43, x44, x45, x71, x408000, x410000, x417000, x417001, x417002 => if x71 = true then (some (0, 0, ([] : List (S26)), 15)) else ((raster_Check.f k x417000 x417001 x417002).bind fun t417 => (if t417 = 0 then (raster_Join.l0 k x0 x1 x43 x44 (wrap64 (x45 + 1)) x408000 x410000) else (some (0, 0, ([] : List (S26)), t417))))
end
def raster_Join.f (k : Nat) (a0 : Int) (a1 : Int) (l2 : List (S24)) : Option (Int × Int × (List (S26)) × Int) := if a0 < 1 then (raster_Join.j0 k a0 a1 true l2) else (if a0 > 256 then (raster_Join.j0 k a0 a1 true l2) else (if a1 < 1 then (raster_Join.j0 k a0 a1 true l2) else (raster_Join.j0 k a0 a1 (decide (a1 > 256)) l2)))
theorem raster_Join.mono_l : ∀ k, (∀ y0 y1 y2 y3, LeO (raster_Join.j0 k y0 y1 y2 y3) (raster_Join.j0 (k + 1) y0 y1 y2 y3)) ∧ (∀ y0 y1 y2 y3 y4 y5 y6, LeO (raster_Join.l0 k y0 y1 y2 y3 y4 y5 y6) (raster_Join.l0 (k + 1) y0 y1 y2 y3 y4 y5 y6)) ∧ (∀ y0 y1 y2 y3 y4 y5 y6 y7 y8 y9 y10, LeO (raster_Join.j2 k y0 y1 y2 y3 y4 y5 y6 y7 y8 y9 y10) (raster_Join.j2 (k + 1) y0 y1 y2 y3 y4 y5 y6 y7 y8 y9 y10))
 | 0 => ⟨fun _ _ _ _ r h => by simp [raster_Join.j0] at h, fun _ _ _ _ _ _ _ r h => by simp [raster_Join.l0] at h, fun _ _ _ _ _ _ _ _ _ _ _ r h => by simp [raster_Join.j2] at h⟩
 | k + 1 => by
  obtain ⟨ih0, ih1, ih2⟩ := raster_Join.mono_l k
  refine ⟨?_, ?_, ?_⟩
  ·intro y0 y1 y2 y3
   unfold raster_Join.j0
   repeat' first
   | (with_reducible exact ih0 _ _ _ _)
   | (with_reducible exact ih1 _ _ _ _ _ _ _)
   | (with_reducible exact ih2 _ _ _ _ _ _ _ _ _ _ _)
   | (with_reducible exact raster_Check.mono _ _ _ _)
   | (with_reducible exact raster_fill__raster_Join_1.mono _ _ _ _ _)
   | (with_reducible exact LeO.refl _)
   | (with_reducible exact LeO.none _)
   | (with_reducible refine LeO.ite ?_ ?_)
   | (with_reducible refine LeO.bind ?_ (fun _ => ?_))
   | exact ih0 _ _ _ _
   | exact ih1 _ _ _ _ _ _ _
   | exact ih2 _ _ _ _ _ _ _ _ _ _ _
   | exact raster_Check.mono _ _ _ _
   | exact raster_fill__raster_Join_1.mono _ _ _ _ _
   | exact LeO.none _
   | refine LeO.ite ?_ ?_
   | refine LeO.bind ?_ (fun _ => ?_)
  ·intro y0 y1 y2 y3 y4 y5 y6
   unfold raster_Join.l0
   repeat' first
   | (with_reducible exact ih0 _ _ _ _)
   | (with_reducible exact ih1 _ _ _ _ _ _ _)
   | (with_reducible exact ih2 _ _ _ _ _ _ _ _ _ _ _)
   | (with_reducible exact raster_Check.mono _ _ _ _)
   | (with_reducible exact raster_fill__raster_Join_1.mono _ _ _ _ _)
   | (with_reducible exact LeO.refl _)
   | (with_reducible exact LeO.none _)
   | (with_reducible refine LeO.ite ?_ ?_)
   | (with_reducible refine LeO.bind ?_ (fun _ => ?_))
   | exact ih0 _ _ _ _
   | exact ih1 _ _ _ _ _ _ _
   | exact ih2 _ _ _ _ _ _ _ _ _ _ _
   | exact raster_Check.mono _ _ _ _
   | exact raster_fill__raster_Join_1.mono _ _ _ _ _
   | exact LeO.none _
   | refine LeO.ite ?_ ?_
   | refine LeO.bind ?_ (fun _ => ?_)
  ·intro y0 y1 y2 y3 y4 y5 y6 y7 y8 y9 y10
   unfold raster_Join.j2
   repeat' first
   | (with_reducible exact ih0 _ _ _ _)
   | (with_reducible exact ih1 _ _ _ _ _ _ _)
   | (with_reducible exact ih2 _ _ _ _ _ _ _ _ _ _ _)
   | (with_reducible exact raster_Check.mono _ _ _ _)
   | (with_reducible exact raster_fill__raster_Join_1.mono _ _ _ _ _)
   | (with_reducible exact LeO.refl _)
   | (with_reducible exact LeO.none _)
   | (with_reducible refine LeO.ite ?_ ?_)
   | (with_reducible refine LeO.bind ?_ (fun _ => ?_))
   | exact ih0 _ _ _ _
   | exact ih1 _ _ _ _ _ _ _
   | exact ih2 _ _ _ _ _ _ _ _ _ _ _
   | exact raster_Check.mono _ _ _ _
   | exact raster_fill__raster_Join_1.mono _ _ _ _ _
   | exact LeO.none _
   | refine LeO.ite ?_ ?_
   | refine LeO.bind ?_ (fun _ => ?_)
theorem raster_Join.mono : ∀ a0 a1 a2 k, LeO (raster_Join.f k a0 a1 a2) (raster_Join.f (k + 1) a0 a1 a2) := by
 intro a0 a1 a2 k
 obtain ⟨ih0, ih1, ih2⟩ := raster_Join.mono_l k
 unfold raster_Join.f
 repeat' first
   | (with_reducible exact ih0 _ _ _ _)
   | (with_reducible exact ih1 _ _ _ _ _ _ _)
   | (with_reducible exact ih2 _ _ _ _ _ _ _ _ _ _ _)
   | (with_reducible exact raster_Check.mono _ _ _ _)
   | (with_reducible exact raster_fill__raster_Join_1.mono _ _ _ _ _)
   | (with_reducible exact LeO.refl _)
   | (with_reducible exact LeO.none _)
   | (with_reducible refine LeO.ite ?_ ?_)
   | (with_reducible refine LeO.bind ?_ (fun _ => ?_))
   | exact ih0 _ _ _ _
   | exact ih1 _ _ _ _ _ _ _
   | exact ih2 _ _ _ _ _ _ _ _ _ _ _
   | exact raster_Check.mono _ _ _ _
   | exact raster_fill__raster_Join_1.mono _ _ _ _ _
   | exact LeO.none _
   | refine LeO.ite ?_ ?_
   | refine LeO.bind ?_ (fun _ => ?_)
set_option maxHeartbeats 8000000 in
set_option maxRecDepth 100000 in
theorem raster_Join.calls (k : Nat) (a0 : Int) (a1 : Int) (A2 : Option Addr) (c2 : Nat) (l2 : List (S24)) (r1 : Int) (r2 : Int) (r3 : List (S26)) (r4 : Int) (w : World) (hr2 : Kd.C k24 w A2 l2.length l2) (hc2 : l2.length ≤ c2) (h : raster_Join.f k a0 a1 l2 = some (r1, r2, r3, r4)) :
  Calls Try.prog 35 #[.int .i64 a0, .int .i64 a1, .slice A2 l2.length c2] w fun e w' => ∃ v2_ : Value, e = .returned (.tuple #[.agg #[.int .i64 r1, .int .i64 r2, v2_], .int .i64 r4]) ∧ Kd.R k26 26 w' w.heap.size (fun _ => True) v2_ r3 ∧ Below w.heap.size w w' := by
 have hu24 := Try.underlying24
 have HR2 := Aside0.mk hr2
 have HC2 := Aside0.mk hc2
 clear hr2 hc2
 have HB := Aside0.mk (Below.refl w.heap.size w)
 have H : (if a0 < 1 then (raster_Join.j0 k a0 a1 true l2) else (if a0 > 256 then (raster_Join.j0 k a0 a1 true l2) else (if a1 < 1 then (raster_Join.j0 k a0 a1 true l2) else (raster_Join.j0 k a0 a1 (decide (a1 > 256)) l2)))) = some (r1, r2, r3, r4) := h
 clear h
 have HC4 := Aside0.mk H
 clear H
 go_enter Try.func35, Try.ntmps35
 go_upto_region 1 with (first | ((with_reducible refine gate_dst (N := 5) rfl ?_); (try (refine gate_guard (by rfl) ?_; dsimp only)); refine box_event ?hg (N := 5) ?hd (cs := #[.slice A2 l2.length c2]) (t := 47) ?hr ?_; (case hd => rfl); (case hg => rfl); (case hr => first | (go_simp; done) | (go_simp; rfl)); intro gb407 hg w5 hbox hb; have GW407 := zg HB hg; have GE407 := zg HB hg; have n0_ := Aside0.mk (hbox); replace HB := zb HB hb; have BK407 := n0_; clear n0_; clear hb hbox hg) | ((with_reducible refine gate_dst (N := 6) rfl ?_); (try (refine gate_guard (by rfl) ?_; dsimp only)); refine box_event ?hg (N := 6) ?hd (cs := #[.int .i64 0, .int .i64 0, .slice none 0 0]) (t := 24) ?hr ?_; (case hd => rfl); (case hg => rfl); (case hr => first | (go_simp; done) | (go_simp; rfl)); intro gb408 hg w6 hbox hb; have GW408 := zg HB hg; have GE408 := zg HB hg; have NB407_408 := zn BK407 hg; have NB408_407 := zn' BK407 hg; have n0_ := Aside0.mk (hbox); replace BK407 := zk BK407 hb; replace HB := zb HB hb; have BK408 := n0_; clear n0_; clear hb hbox hg))
 repeat (go_quiet (first | ((with_reducible refine gate_dst (N := 5) rfl ?_); (try (refine gate_guard (by rfl) ?_; dsimp only)); refine box_event ?hg (N := 5) ?hd (cs := #[.slice A2 l2.length c2]) (t := 47) ?hr ?_; (case hd => rfl); (case hg => rfl); (case hr => first | (go_simp; done) | (go_simp; rfl)); intro gb407 hg w5 hbox hb; have GW407 := zg HB hg; have GE407 := zg HB hg; have n0_ := Aside0.mk (hbox); replace HB := zb HB hb; have BK407 := n0_; clear n0_; clear hb hbox hg) | ((with_reducible refine gate_dst (N := 6) rfl ?_); (try (refine gate_guard (by rfl) ?_; dsimp only)); refine box_event ?hg (N := 6) ?hd (cs := #[.int .i64 0, .int .i64 0, .slice none 0 0]) (t := 24) ?hr ?_; (case hd => rfl); (case hg => rfl); (case hr => first | (go_simp; done) | (go_simp; rfl)); intro gb408 hg w6 hbox hb; have GW408 := zg HB hg; have GE408 := zg HB hg; have NB407_408 := zn BK407 hg; have NB408_407 := zn' BK407 hg; have n0_ := Aside0.mk (hbox); replace BK407 := zk BK407 hb; replace HB := zb HB hb; have BK408 := n0_; clear n0_; clear hb hbox hg)); go_upto_region 1 with (first | ((with_reducible refine gate_dst (N := 5) rfl ?_); (try (refine gate_guard (by rfl) ?_; dsimp only)); refine box_event ?hg (N := 5) ?hd (cs := #[.slice A2 l2.length c2]) (t := 47) ?hr ?_; (case hd => rfl); (case hg => rfl); (case hr => first | (go_simp; done) | (go_simp; rfl)); intro gb407 hg w5 hbox hb; have GW407 := zg HB hg; have GE407 := zg HB hg; have n0_ := Aside0.mk (hbox); replace HB := zb HB hb; have BK407 := n0_; clear n0_; clear hb hbox hg) | ((with_reducible refine gate_dst (N := 6) rfl ?_); (try (refine gate_guard (by rfl) ?_; dsimp only)); refine box_event ?hg (N := 6) ?hd (cs := #[.int .i64 0, .int .i64 0, .slice none 0 0]) (t := 24) ?hr ?_; (case hd => rfl); (case hg => rfl); (case hr => first | (go_simp; done) | (go_simp; rfl)); intro gb408 hg w6 hbox hb; have GW408 := zg HB hg; have GE408 := zg HB hg; have NB407_408 := zn BK407 hg; have NB408_407 := zn' BK407 hg; have n0_ := Aside0.mk (hbox); replace BK407 := zk BK407 hb; replace HB := zb HB hb; have BK408 := n0_; clear n0_; clear hb hbox hg)))
 (try simp only [Act.put, sA, sB, sC])
 go_cut [26] (fun v26 wc => ∃ (kq : Nat) (x26_3 : Bool), v26 = .bool x26_3 ∧ Aside0 (raster_Join.j0 kq a0 a1 x26_3 l2 = some (r1, r2, r3, r4)) ∧ Aside0 (kq ≤ k) ∧ Aside0 (wc.heap[gb407]? = some (.cells #[(.slice A2 l2.length c2)] 47 (0, 0))) ∧ Aside0 (wc.heap[gb408]? = some (.cells #[.int .i64 0, .int .i64 0, (.slice none 0 0)] 24 (0, 0))) ∧ Aside0 (Below w.heap.size w wc))
 case first =>
  have H := HC4.out
  clear HC4
  by_cases c7 : a0 < 1
  ·rw [if_pos c7] at H
   have c7b0 : decide (a0 < 1) = true := decide_eq_true c7
   clear c7
   (first | rw [c7b0] | (simp only [i64_w, i32_w]; rw [c7b0]) | skip)
   have H' := Aside0.mk H
   clear H
   go_wp2
   repeat (go_quiet (fail); try go_wp2)
   go_meet
   case rel => exact ⟨_, (true), (by first | rfl | (simp; done) | (simp [*]; done)), H', ⟨by first | omega | exact Nat.le_refl _⟩, ⟨by exact zk0 BK407⟩, ⟨by exact zk0 BK408⟩, ⟨by exact zb0 HB⟩⟩
  ·rw [if_neg c7] at H
   have c7b0 : decide (a0 < 1) = false := decide_eq_false c7
   clear c7
   (first | rw [c7b0] | (simp only [i64_w, i32_w]; rw [c7b0]) | skip)
   by_cases c8 : a0 > 256
   ·rw [if_pos c8] at H
    have c8b0 : decide (256 < a0) = true := decide_eq_true c8
    clear c8
    have H' := Aside0.mk H
    clear H
    go_wp2
    repeat (go_quiet (fail); try go_wp2)
    go_meet
    case rel => exact ⟨_, (true), (by first | rfl | (simp; done) | (simp [*]; done)), H', ⟨by first | omega | exact Nat.le_refl _⟩, ⟨by exact zk0 BK407⟩, ⟨by exact zk0 BK408⟩, ⟨by exact zb0 HB⟩⟩
   ·rw [if_neg c8] at H
    have c8b0 : decide (256 < a0) = false := decide_eq_false c8
    clear c8
    by_cases c9 : a1 < 1
    ·rw [if_pos c9] at H
     have c9b0 : decide (a1 < 1) = true := decide_eq_true c9
     clear c9
     have H' := Aside0.mk H
     clear H
     go_wp2
     repeat (go_quiet (fail); try go_wp2)
     go_meet
     case rel => exact ⟨_, (true), (by first | rfl | (simp; done) | (simp [*]; done)), H', ⟨by first | omega | exact Nat.le_refl _⟩, ⟨by exact zk0 BK407⟩, ⟨by exact zk0 BK408⟩, ⟨by exact zb0 HB⟩⟩
    ·rw [if_neg c9] at H
     have c9b0 : decide (a1 < 1) = false := decide_eq_false c9
     clear c9
     have H' := Aside0.mk H
     clear H
     go_wp2
     repeat (go_quiet (fail); try go_wp2)
     go_meet
     case rel => exact ⟨_, (decide (a1 > 256)), (by first | rfl | (simp; done) | (simp [*]; done)), H', ⟨by first | omega | exact Nat.le_refl _⟩, ⟨by exact zk0 BK407⟩, ⟨by exact zk0 BK408⟩, ⟨by exact zb0 HB⟩⟩
 case rest =>
  clear HC4
  try clear c2
  try clear p2
  try clear c3
  try clear c7
  try clear c7b0
  try clear c8
  try clear c8b0
  try clear c9
  try clear c9b0
  obtain ⟨kq, x26_3, rfl, HA, HJ3, BK407, BK408, HB⟩ := hcut
  cases kq with
  | zero => exact absurd HA.out (by simp [raster_Join.j0])
  | succ kj3 =>
   have H := HA.out
   clear HA
   simp only [raster_Join.j0] at H
   by_cases c10 : x26_3 = true
   ·subst c10
    have H1 : (some (0, 0, ([] : List (S26)), 15)) = some (r1, r2, r3, r4) := by rw [if_pos rfl] at H; exact H
    clear H
    have H := H1
    clear H1
    simp only [Option.some.injEq, Prod.mk.injEq] at H
    obtain ⟨rfl, rfl, rfl, rfl⟩ := H
    have hnb11 := NB408_407.out
    have hnc11 := NB407_408.out
    obtain ⟨hcz12_0, hcz12_1, hcz12_2, hfz12_0, hfz12_1, hfz12_2⟩ := zq3 BK408
    go_wp2
    repeat (go_quiet (fail); try go_wp2)
    refine bodyPost_ret (results_ct rfl _ _ gb408 24 #[.int .i64 0, .int .i64 0, .slice none 0 0] (0, 0) _ rfl (by exact zp BK408 rfl) Try.underlying24 rfl (by kernel_rfl)) rfl ?_
    exact ⟨_, by first | rfl | (simp [errW_none, errW_some] <;> rfl) | (simp [*, errW_none, errW_some] <;> rfl), by first | exact Kd.R_nil _ _ _ _ _ | exact Kd.N_nil _ _ _ _ _ | exact Kd.V_nil _ _ _ _ _ | exact Kd.Q_nil _ _ _ _ _ | exact Kd.S_nil _ _ _ _ _, by exact zbo HB GE408⟩
   ·replace c10 := Bool.eq_false_iff.mpr c10
    subst c10
    have H1 : (if (l2.length : Int) = (wrap64 ((wrap64 (Int.tdiv (wrap64 ((wrap64 (a0 + 16)) - 1)) 16)) * (wrap64 (Int.tdiv (wrap64 ((wrap64 (a1 + 16)) - 1)) 16)))) then (raster_Join.l0 kj3 a0 a1 l2 (l2.length : Int) 0 l2 (wrap64 (Int.tdiv (wrap64 ((wrap64 (a0 + 16)) - 1)) 16))) else (some (0, 0, ([] : List (S26)), 15))) = some (r1, r2, r3, r4) := by rw [if_neg (show ¬ (false = true) by decide)] at H; exact H
    clear H
    have H := H1
    clear H1
    by_cases c13 : (l2.length : Int) = (wrap64 ((wrap64 (Int.tdiv (wrap64 ((wrap64 (a0 + 16)) - 1)) 16)) * (wrap64 (Int.tdiv (wrap64 ((wrap64 (a1 + 16)) - 1)) 16))))
    ·rw [if_pos c13] at H
     have c13b0 : ((l2.length : Int) == (wrap64 ((wrap64 (Int.tdiv (wrap64 ((wrap64 (a0 + 16)) - 1)) 16)) * (wrap64 (Int.tdiv (wrap64 ((wrap64 (a1 + 16)) - 1)) 16))))) = true := beq_iff_eq.mpr c13
     have c13b1 : ((l2.length : Int) != (wrap64 ((wrap64 (Int.tdiv (wrap64 ((wrap64 (a0 + 16)) - 1)) 16)) * (wrap64 (Int.tdiv (wrap64 ((wrap64 (a1 + 16)) - 1)) 16))))) = false := bne_eq_false_iff_eq.mpr c13
     clear c13
     have H' := Aside0.mk H
     clear H
     go_wp2_with (first | ((with_reducible refine gate_dst (N := 8) rfl ?_); (try (refine gate_guard (by rfl) ?_; dsimp only)); refine box_event ?hg (N := 8) ?hd (cs := #[.int .i64 0]) (t := 3) ?hr ?_; (case hd => rfl); (case hg => rfl); (case hr => first | (go_simp; done) | (go_simp; rfl)); intro gb409 hg w14 hbox hb; have GW409 := zg HB hg; have GE409 := zg HB hg; have NB407_409 := zn BK407 hg; have NB409_407 := zn' BK407 hg; have NB408_409 := zn BK408 hg; have NB409_408 := zn' BK408 hg; have n0_ := Aside0.mk (hbox); replace BK407 := zk BK407 hb; replace BK408 := zk BK408 hb; replace HB := zb HB hb; have BK409 := n0_; clear n0_; clear hb hbox hg; have hnb15 := NB409_407.out; have hnc15 := NB407_409.out; have hnb16 := NB409_408.out; have hnc16 := NB408_409.out; obtain ⟨hcz17_0, hfz17_0⟩ := zq1 BK409; have hnb18 := NB407_408.out; have hnc18 := NB408_407.out; obtain ⟨hcz19_0, hfz19_0⟩ := zq1 BK407))
     repeat (go_quiet (first | ((with_reducible refine gate_dst (N := 8) rfl ?_); (try (refine gate_guard (by rfl) ?_; dsimp only)); refine box_event ?hg (N := 8) ?hd (cs := #[.int .i64 0]) (t := 3) ?hr ?_; (case hd => rfl); (case hg => rfl); (case hr => first | (go_simp; done) | (go_simp; rfl)); intro gb409 hg w14 hbox hb; have GW409 := zg HB hg; have GE409 := zg HB hg; have NB407_409 := zn BK407 hg; have NB409_407 := zn' BK407 hg; have NB408_409 := zn BK408 hg; have NB409_408 := zn' BK408 hg; have n0_ := Aside0.mk (hbox); replace BK407 := zk BK407 hb; replace BK408 := zk BK408 hb; replace HB := zb HB hb; have BK409 := n0_; clear n0_; clear hb hbox hg; have hnb15 := NB409_407.out; have hnc15 := NB407_409.out; have hnb16 := NB409_408.out; have hnc16 := NB408_409.out; obtain ⟨hcz17_0, hfz17_0⟩ := zq1 BK409; have hnb18 := NB407_408.out; have hnc18 := NB408_407.out; obtain ⟨hcz19_0, hfz19_0⟩ := zq1 BK407)); try go_wp2_with (first | ((with_reducible refine gate_dst (N := 8) rfl ?_); (try (refine gate_guard (by rfl) ?_; dsimp only)); refine box_event ?hg (N := 8) ?hd (cs := #[.int .i64 0]) (t := 3) ?hr ?_; (case hd => rfl); (case hg => rfl); (case hr => first | (go_simp; done) | (go_simp; rfl)); intro gb409 hg w14 hbox hb; have GW409 := zg HB hg; have GE409 := zg HB hg; have NB407_409 := zn BK407 hg; have NB409_407 := zn' BK407 hg; have NB408_409 := zn BK408 hg; have NB409_408 := zn' BK408 hg; have n0_ := Aside0.mk (hbox); replace BK407 := zk BK407 hb; replace BK408 := zk BK408 hb; replace HB := zb HB hb; have BK409 := n0_; clear n0_; clear hb hbox hg; have hnb15 := NB409_407.out; have hnc15 := NB407_409.out; have hnb16 := NB409_408.out; have hnc16 := NB408_409.out; obtain ⟨hcz17_0, hfz17_0⟩ := zq1 BK409; have hnb18 := NB407_408.out; have hnc18 := NB408_407.out; obtain ⟨hcz19_0, hfz19_0⟩ := zq1 BK407)))
     (try simp only [Act.put, sA, sB, sC])
     go_loopg [45] kj3 (fun kq v45 w' => ∃ (x45_2 : Int) (x409000_2 : Int) (x409001_2 : Int), v45 = .int .i64 x45_2 ∧ Aside0 (raster_Join.l0 kq a0 a1 l2 (l2.length : Int) x45_2 l2 (wrap64 (Int.tdiv (wrap64 ((wrap64 (a0 + 16)) - 1)) 16)) = some (r1, r2, r3, r4)) ∧ Aside0 (kq ≤ kj3) ∧ Aside0 (w'.heap[gb407]? = some (.cells #[(.slice A2 l2.length c2)] 47 (0, 0))) ∧ Aside0 (w'.heap[gb408]? = some (.cells #[.int .i64 x409000_2, .int .i64 x409001_2, (.slice none 0 0)] 24 (0, 0))) ∧ Aside0 (w'.heap[gb409]? = some (.cells #[.int .i64 (wrap64 (Int.tdiv (wrap64 ((wrap64 (a0 + 16)) - 1)) 16))] 3 (0, 0))) ∧ Aside0 (Below w.heap.size w w'))
     case atStart => exact ⟨(0), (0), (0), (by first | rfl | (simp; done) | (simp [*]; done)), H', ⟨Nat.le_refl _⟩, ⟨by exact zf BK407 NB407_409⟩, ⟨by exact zf BK408 NB408_409⟩, ⟨by exact zp BK409 rfl⟩, ⟨by exact zbo HB GE409⟩⟩
     case round =>
      clear H'
      try clear c1
      try clear q1
      try clear c2
      try clear p2
      try clear c3
      try clear q3
      try clear p6
      try clear c7
      try clear c7b0
      try clear c8
      try clear c8b0
      try clear c9
      try clear c9b0
      try clear c10
      try clear c11
      try clear c13
      try clear c13b0
      try clear c13b1
      try clear c15
      try clear c16
      try clear c18
      try clear hcz12_0
      try clear hcz12_1
      try clear hcz12_2
      try clear hcz17_0
      try clear hcz19_0
      try clear hfz12_0
      try clear hfz12_1
      try clear hfz12_2
      try clear hfz17_0
      try clear hfz19_0
      try clear p2
      obtain ⟨x45_2, x409000_2, x409001_2, rfl, HA, HK2, BK407, BK408, BK409, HB⟩ := hrel
      cases gk with
      | zero => exact absurd HA.out (by simp [raster_Join.l0])
      | succ k2 =>
       have H := HA.out
       clear HA
       simp only [raster_Join.l0] at H
       by_cases c20 : x45_2 < (l2.length : Int)
       ·rw [if_pos c20] at H
        have c20b0 : decide (x45_2 < (l2.length : Int)) = true := decide_eq_true c20
        clear c20
        by_cases c21 : 0 ≤ x45_2
        ·rw [if_pos c21] at H
         have c21b0 : decide (0 ≤ x45_2) = true := decide_eq_true c21
         clear c21
         by_cases c22 : x45_2 < (l2.length : Int)
         ·rw [if_pos c22] at H
          have c22b0 : decide (x45_2 < (l2.length : Int)) = true := decide_eq_true c22
          clear c22
          have HC23 := Aside0.mk H
          clear H
          have p415 : 0 ≤ (x45_2 : Int) := of_decide_eq_true (by first | (with_reducible assumption) | assumption)
          have q415 : x45_2 < (l2.length : Int) := of_decide_eq_true (by first | (with_reducible assumption) | assumption)
          obtain ⟨ad415, A415_2, c415_2, e415, hx415_0, hx415_1, hx415_2, hl415_2, hi415_2⟩ := at_T24 HR2.out x45_2 p415 q415
          cases e415
          replace hx415_0 := (HB.out.cell (World.block_lt_of_cell? w _ hx415_0)).trans hx415_0
          replace hx415_1 := (HB.out.cell (World.block_lt_of_cell? w _ hx415_1)).trans hx415_1
          replace hx415_2 := (HB.out.cell (World.block_lt_of_cell? w _ hx415_2)).trans hx415_2
          have HR415_2 := Aside0.mk hi415_2
          have HC415_2 := Aside0.mk hl415_2
          clear hi415_2 hl415_2
          replace p415 := eq_true p415
          replace q415 := eq_true q415
          go_upto_region 9 with (first | ((with_reducible refine gate_dst (N := 11) rfl ?_); (try (refine gate_guard (by rfl) ?_; dsimp only)); refine box_event ?hg (N := 11) ?hd (cs := #[.int .i64 0, .int .i64 0, .slice none 0 0]) (t := 24) ?hr ?_; (case hd => rfl); (case hg => rfl); (case hr => first | (go_simp; done) | (go_simp; rfl)); intro gb416 hg w24 hbox hb; have GW416 := zg HB hg; have GE416 := zg HB hg; have NB407_416 := zn BK407 hg; have NB416_407 := zn' BK407 hg; have NB408_416 := zn BK408 hg; have NB416_408 := zn' BK408 hg; have NB409_416 := zn BK409 hg; have NB416_409 := zn' BK409 hg; have n0_ := Aside0.mk (hbox); replace BK407 := zk BK407 hb; replace BK408 := zk BK408 hb; replace BK409 := zk BK409 hb; replace HB := zb HB hb; have BK416 := n0_; clear n0_; clear hb hbox hg; have hnb25 := NB416_407.out; have hnc25 := NB407_416.out; have hnb26 := NB416_408.out; have hnc26 := NB408_416.out; have hnb27 := NB416_409.out; have hnc27 := NB409_416.out; obtain ⟨hcz28_0, hcz28_1, hcz28_2, hfz28_0, hfz28_1, hfz28_2⟩ := zq3 BK416))
          repeat (go_quiet (first | ((with_reducible refine gate_dst (N := 11) rfl ?_); (try (refine gate_guard (by rfl) ?_; dsimp only)); refine box_event ?hg (N := 11) ?hd (cs := #[.int .i64 0, .int .i64 0, .slice none 0 0]) (t := 24) ?hr ?_; (case hd => rfl); (case hg => rfl); (case hr => first | (go_simp; done) | (go_simp; rfl)); intro gb416 hg w24 hbox hb; have GW416 := zg HB hg; have GE416 := zg HB hg; have NB407_416 := zn BK407 hg; have NB416_407 := zn' BK407 hg; have NB408_416 := zn BK408 hg; have NB416_408 := zn' BK408 hg; have NB409_416 := zn BK409 hg; have NB416_409 := zn' BK409 hg; have n0_ := Aside0.mk (hbox); replace BK407 := zk BK407 hb; replace BK408 := zk BK408 hb; replace BK409 := zk BK409 hb; replace HB := zb HB hb; have BK416 := n0_; clear n0_; clear hb hbox hg; have hnb25 := NB416_407.out; have hnc25 := NB407_416.out; have hnb26 := NB416_408.out; have hnc26 := NB408_416.out; have hnb27 := NB416_409.out; have hnc27 := NB409_416.out; obtain ⟨hcz28_0, hcz28_1, hcz28_2, hfz28_0, hfz28_1, hfz28_2⟩ := zq3 BK416)); go_upto_region 9 with (first | ((with_reducible refine gate_dst (N := 11) rfl ?_); (try (refine gate_guard (by rfl) ?_; dsimp only)); refine box_event ?hg (N := 11) ?hd (cs := #[.int .i64 0, .int .i64 0, .slice none 0 0]) (t := 24) ?hr ?_; (case hd => rfl); (case hg => rfl); (case hr => first | (go_simp; done) | (go_simp; rfl)); intro gb416 hg w24 hbox hb; have GW416 := zg HB hg; have GE416 := zg HB hg; have NB407_416 := zn BK407 hg; have NB416_407 := zn' BK407 hg; have NB408_416 := zn BK408 hg; have NB416_408 := zn' BK408 hg; have NB409_416 := zn BK409 hg; have NB416_409 := zn' BK409 hg; have n0_ := Aside0.mk (hbox); replace BK407 := zk BK407 hb; replace BK408 := zk BK408 hb; replace BK409 := zk BK409 hb; replace HB := zb HB hb; have BK416 := n0_; clear n0_; clear hb hbox hg; have hnb25 := NB416_407.out; have hnc25 := NB407_416.out; have hnb26 := NB416_408.out; have hnc26 := NB408_416.out; have hnb27 := NB416_409.out; have hnc27 := NB409_416.out; obtain ⟨hcz28_0, hcz28_1, hcz28_2, hfz28_0, hfz28_1, hfz28_2⟩ := zq3 BK416)))
          (try simp only [Act.put, sA, sB, sC])
          go_cut [71] (fun v71 wc => ∃ (kq : Nat) (x71_22 : Bool), v71 = .bool x71_22 ∧ Aside0 (raster_Join.j2 kq a0 a1 l2 (l2.length : Int) x45_2 x71_22 l2 (wrap64 (Int.tdiv (wrap64 ((wrap64 (a0 + 16)) - 1)) 16)) ((rd_T24 l2 x45_2).f0) ((rd_T24 l2 x45_2).f1) ((rd_T24 l2 x45_2).f2) = some (r1, r2, r3, r4)) ∧ Aside0 (kq ≤ k2) ∧ Aside0 (wc.heap[gb407]? = some (.cells #[(.slice (some ad415) l2.length c2)] 47 (0, 0))) ∧ Aside0 (wc.heap[gb408]? = some (.cells #[.int .i64 x409000_2, .int .i64 x409001_2, (.slice none 0 0)] 24 (0, 0))) ∧ Aside0 (wc.heap[gb409]? = some (.cells #[.int .i64 (wrap64 (Int.tdiv (wrap64 ((wrap64 (a0 + 16)) - 1)) 16))] 3 (0, 0))) ∧ Aside0 (wc.heap[gb416]? = some (.cells #[.int .i64 ((rd_T24 l2 x45_2).f0), .int .i64 ((rd_T24 l2 x45_2).f1), (.slice A415_2 ((rd_T24 l2 x45_2).f2).length c415_2)] 24 (0, 0))) ∧ Aside0 (Below w.heap.size w wc))
          case first =>
           have H := HC23.out
           clear HC23
           by_cases c29 : (wrap64 (Int.tdiv (wrap64 ((wrap64 (a0 + 16)) - 1)) 16)) = 0
           ·rw [if_pos c29] at H
            exact absurd H (by simp)
           ·rw [if_neg c29] at H
            have c29b0 : ((wrap64 (Int.tdiv (wrap64 ((wrap64 (a0 + 16)) - 1)) 16)) == 0) = false := beq_eq_false_iff_ne.mpr c29
            have c29b1 : ((wrap64 (Int.tdiv (wrap64 ((wrap64 (a0 + 16)) - 1)) 16)) != 0) = true := bne_iff_ne.mpr c29
            (first | rw [c29b0] | (simp only [i64_w, i32_w]; rw [c29b0]) | skip)
            obtain ⟨ji30, hji30⟩ : ∃ j_ : Int, (mn 16 (wrap64 (a0 - (wrap64 ((Int.tmod x45_2 (wrap64 (Int.tdiv (wrap64 ((wrap64 (a0 + 16)) - 1)) 16))) * 16))))) = j_ := ⟨_, rfl⟩
            replace H : (if ((rd_T24 l2 x45_2).f0) = (ji30) then (raster_Join.j2 k2 a0 a1 l2 (l2.length : Int) x45_2 (((rd_T24 l2 x45_2).f1) != (mn 16 (wrap64 (a1 - (wrap64 ((wrap64 (Int.tdiv x45_2 (wrap64 (Int.tdiv (wrap64 ((wrap64 (a0 + 16)) - 1)) 16)))) * 16)))))) l2 (wrap64 (Int.tdiv (wrap64 ((wrap64 (a0 + 16)) - 1)) 16)) ((rd_T24 l2 x45_2).f0) ((rd_T24 l2 x45_2).f1) ((rd_T24 l2 x45_2).f2)) else (raster_Join.j2 k2 a0 a1 l2 (l2.length : Int) x45_2 true l2 (wrap64 (Int.tdiv (wrap64 ((wrap64 (a0 + 16)) - 1)) 16)) ((rd_T24 l2 x45_2).f0) ((rd_T24 l2 x45_2).f1) ((rd_T24 l2 x45_2).f2))) = some (r1, r2, r3, r4) := by first | (rw [hji30] at H; exact H) | (simp only [hji30] at H ⊢; exact H)
            have hji30_ : (if (wrap64 (a0 - (wrap64 ((Int.tmod x45_2 (wrap64 (Int.tdiv (wrap64 ((wrap64 (a0 + 16)) - 1)) 16))) * 16)))) < 16 then (wrap64 (a0 - (wrap64 ((Int.tmod x45_2 (wrap64 (Int.tdiv (wrap64 ((wrap64 (a0 + 16)) - 1)) 16))) * 16)))) else 16) = ji30 := hji30
            by_cases c31 : ((rd_T24 l2 x45_2).f0) = (ji30)
            ·rw [if_pos c31] at H
             have c31b0 : (((rd_T24 l2 x45_2).f0) == (ji30)) = true := beq_iff_eq.mpr c31
             have c31b1 : (((rd_T24 l2 x45_2).f0) != (ji30)) = false := bne_eq_false_iff_eq.mpr c31
             clear c31
             obtain ⟨ji32, hji32⟩ : ∃ j_ : Int, (mn 16 (wrap64 (a1 - (wrap64 ((wrap64 (Int.tdiv x45_2 (wrap64 (Int.tdiv (wrap64 ((wrap64 (a0 + 16)) - 1)) 16)))) * 16))))) = j_ := ⟨_, rfl⟩
             replace H : (raster_Join.j2 k2 a0 a1 l2 (l2.length : Int) x45_2 (((rd_T24 l2 x45_2).f1) != (ji32)) l2 (wrap64 (Int.tdiv (wrap64 ((wrap64 (a0 + 16)) - 1)) 16)) ((rd_T24 l2 x45_2).f0) ((rd_T24 l2 x45_2).f1) ((rd_T24 l2 x45_2).f2)) = some (r1, r2, r3, r4) := by first | (rw [hji32] at H; exact H) | (simp only [hji32] at H ⊢; exact H)
             have hji32_ : (if (wrap64 (a1 - (wrap64 ((wrap64 (Int.tdiv x45_2 (wrap64 (Int.tdiv (wrap64 ((wrap64 (a0 + 16)) - 1)) 16)))) * 16)))) < 16 then (wrap64 (a1 - (wrap64 ((wrap64 (Int.tdiv x45_2 (wrap64 (Int.tdiv (wrap64 ((wrap64 (a0 + 16)) - 1)) 16)))) * 16)))) else 16) = ji32 := hji32
             have H' := Aside0.mk H
             clear H
             obtain ⟨hcz33_0, hcz33_1, hcz33_2, hfz33_0, hfz33_1, hfz33_2⟩ := zq3 BK416
             obtain ⟨hcz34_0, hfz34_0⟩ := zq1 BK409
             go_wp2
             repeat (go_quiet (fail); try go_wp2)
             go_meet
             case rel => exact ⟨_, ((((rd_T24 l2 x45_2).f1) != (ji32))), (by first | rfl | (simp; done) | (simp only [← hji32] <;> (first | rfl | simp)) | (simp [*]; done)), H', ⟨by have := HJ3.out; have := HK2.out; first | omega | exact Nat.le_refl _⟩, ⟨by exact zf BK407 NB407_416⟩, ⟨by exact zf BK408 NB408_416⟩, ⟨by exact zf BK409 NB409_416⟩, ⟨by exact zp BK416 rfl⟩, ⟨by exact zbo HB GE416⟩⟩
            ·rw [if_neg c31] at H
             have c31b0 : (((rd_T24 l2 x45_2).f0) == (ji30)) = false := beq_eq_false_iff_ne.mpr c31
             have c31b1 : (((rd_T24 l2 x45_2).f0) != (ji30)) = true := bne_iff_ne.mpr c31
             have H' := Aside0.mk H
             clear H
             obtain ⟨hcz35_0, hcz35_1, hcz35_2, hfz35_0, hfz35_1, hfz35_2⟩ := zq3 BK416
             obtain ⟨hcz36_0, hfz36_0⟩ := zq1 BK409
             go_wp2
             repeat (go_quiet (fail); try go_wp2)
             go_meet
             case rel => exact ⟨_, (true), (by first | rfl | (simp; done) | (simp [*]; done)), H', ⟨by have := HJ3.out; have := HK2.out; first | omega | exact Nat.le_refl _⟩, ⟨by exact zf BK407 NB407_416⟩, ⟨by exact zf BK408 NB408_416⟩, ⟨by exact zf BK409 NB409_416⟩, ⟨by exact zp BK416 rfl⟩, ⟨by exact zbo HB GE416⟩⟩
          case rest =>
           clear HC23
           try clear c1
           try clear q1
           try clear c2
           try clear p2
           try clear c3
           try clear q3
           try clear c4
           try clear p4
           try clear q4
           try clear hx4
           try clear p6
           try clear c7
           try clear c7b0
           try clear c8
           try clear c8b0
           try clear c9
           try clear c9b0
           try clear c10
           try clear c11
           try clear c13
           try clear c13b0
           try clear c13b1
           try clear c15
           try clear c16
           try clear c18
           try clear c20
           try clear c20b0
           try clear c21
           try clear c21b0
           try clear c22
           try clear c22b0
           try clear c25
           try clear c26
           try clear c27
           try clear c29
           try clear c29b0
           try clear c29b1
           try clear c31
           try clear c31b0
           try clear c31b1
           try clear c35
           try clear hcz12_0
           try clear hcz12_1
           try clear hcz12_2
           try clear hcz17_0
           try clear hcz19_0
           try clear hcz28_0
           try clear hcz28_1
           try clear hcz28_2
           try clear hcz33_0
           try clear hcz33_1
           try clear hcz33_2
           try clear hcz34_0
           try clear hcz35_0
           try clear hcz35_1
           try clear hcz35_2
           try clear hcz36_0
           try clear hfz12_0
           try clear hfz12_1
           try clear hfz12_2
           try clear hfz17_0
           try clear hfz19_0
           try clear hfz28_0
           try clear hfz28_1
           try clear hfz28_2
           try clear hfz33_0
           try clear hfz33_1
           try clear hfz33_2
           try clear hfz34_0
           try clear hfz35_0
           try clear hfz35_1
           try clear hfz35_2
           try clear hfz36_0
           try clear hx415_0
           try clear hx415_1
           try clear hx415_2
           try clear p2
           try clear p415
           try clear p6
           try clear q1
           try clear q3
           try clear q415
           obtain ⟨kq, x71_22, rfl, HA, HJ22, BK407, BK408, BK409, BK416, HB⟩ := hcut
           cases kq with
           | zero => exact absurd HA.out (by simp [raster_Join.j2])
           | succ kj22 =>
            have H := HA.out
            clear HA
            simp only [raster_Join.j2] at H
            by_cases c37 : x71_22 = true
            ·subst c37
             have H1 : (some (0, 0, ([] : List (S26)), 15)) = some (r1, r2, r3, r4) := by rw [if_pos rfl] at H; exact H
             clear H
             have H := H1
             clear H1
             simp only [Option.some.injEq, Prod.mk.injEq] at H
             obtain ⟨rfl, rfl, rfl, rfl⟩ := H
             have hnb38 := NB408_407.out
             have hnc38 := NB407_408.out
             have hnb39 := NB408_409.out
             have hnc39 := NB409_408.out
             have hnb40 := NB408_416.out
             have hnc40 := NB416_408.out
             obtain ⟨hcz41_0, hcz41_1, hcz41_2, hfz41_0, hfz41_1, hfz41_2⟩ := zq3 BK408
             go_wp2
             repeat (go_quiet (fail); try go_wp2)
             refine bodyPost_ret (results_ct rfl _ _ gb408 24 #[.int .i64 0, .int .i64 0, .slice none 0 0] (0, 0) _ rfl (by exact zp BK408 rfl) Try.underlying24 rfl (by kernel_rfl)) rfl ?_
             exact ⟨_, by first | rfl | (simp [errW_none, errW_some] <;> rfl) | (simp [*, errW_none, errW_some] <;> rfl), by first | exact Kd.R_nil _ _ _ _ _ | exact Kd.N_nil _ _ _ _ _ | exact Kd.V_nil _ _ _ _ _ | exact Kd.Q_nil _ _ _ _ _ | exact Kd.S_nil _ _ _ _ _, by exact zbo HB GE408⟩
            ·replace c37 := Bool.eq_false_iff.mpr c37
             subst c37
             have H1 : ((raster_Check.f kj22 ((rd_T24 l2 x45_2).f0) ((rd_T24 l2 x45_2).f1) ((rd_T24 l2 x45_2).f2)).bind fun t417 => (if t417 = 0 then (raster_Join.l0 kj22 a0 a1 l2 (l2.length : Int) (wrap64 (x45_2 + 1)) l2 (wrap64 (Int.tdiv (wrap64 ((wrap64 (a0 + 16)) - 1)) 16))) else (some (0, 0, ([] : List (S26)), t417)))) = some (r1, r2, r3, r4) := by rw [if_neg (show ¬ (false = true) by decide)] at H; exact H
             clear H
             have H := H1
             clear H1
             replace H := Option.bind_eq_some_iff.mp H
             obtain ⟨t417, A420, H⟩ := H
             replace H : (if t417 = 0 then (raster_Join.l0 kj22 a0 a1 l2 (l2.length : Int) (wrap64 (x45_2 + 1)) l2 (wrap64 (Int.tdiv (wrap64 ((wrap64 (a0 + 16)) - 1)) 16))) else (some (0, 0, ([] : List (S26)), t417))) = some (r1, r2, r3, r4) := H
             have A42 := Aside0.mk A420
             clear A420
             by_cases c43 : t417 = 0
             ·rw [if_pos c43] at H
              have c43b0 : (t417 == 0) = true := beq_iff_eq.mpr c43
              have c43b1 : (t417 != 0) = false := bne_eq_false_iff_eq.mpr c43
              clear c43
              have H' := Aside0.mk H
              clear H
              obtain ⟨hcz44_0, hcz44_1, hcz44_2, hfz44_0, hfz44_1, hfz44_2⟩ := zq3 BK416
              go_wp2_with (first | (go_at_call 18; (with_reducible refine (raster_Check.calls kj22 ((rd_T24 l2 x45_2).f0) ((rd_T24 l2 x45_2).f1) _ _ ((rd_T24 l2 x45_2).f2) t417 _ ?side1 ?side2 A42.out).mono ?_); (case side1 => repeat (first | exact (Kd.C_below HR415_2.out HB.out) | (with_reducible refine Kd.C_alloc ?_ _) | (with_reducible refine Kd.C_drewN ?_ _) | (with_reducible refine Kd.C_drew ?_))); (case side2 => exact HC415_2.out); rintro e w45 ⟨rfl, hb⟩; replace BK407 := zk BK407 hb; replace BK408 := zk BK408 hb; replace BK409 := zk BK409 hb; replace BK416 := zk BK416 hb; replace HB := zb HB hb; (try clear hb); (try clear hb2); (try clear hk); (try clear hi)))
              repeat (go_quiet (first | (go_at_call 18; (with_reducible refine (raster_Check.calls kj22 ((rd_T24 l2 x45_2).f0) ((rd_T24 l2 x45_2).f1) _ _ ((rd_T24 l2 x45_2).f2) t417 _ ?side1 ?side2 A42.out).mono ?_); (case side1 => repeat (first | exact (Kd.C_below HR415_2.out HB.out) | (with_reducible refine Kd.C_alloc ?_ _) | (with_reducible refine Kd.C_drewN ?_ _) | (with_reducible refine Kd.C_drew ?_))); (case side2 => exact HC415_2.out); rintro e w45 ⟨rfl, hb⟩; replace BK407 := zk BK407 hb; replace BK408 := zk BK408 hb; replace BK409 := zk BK409 hb; replace BK416 := zk BK416 hb; replace HB := zb HB hb; (try clear hb); (try clear hb2); (try clear hk); (try clear hi))); try go_wp2_with (first | (go_at_call 18; (with_reducible refine (raster_Check.calls kj22 ((rd_T24 l2 x45_2).f0) ((rd_T24 l2 x45_2).f1) _ _ ((rd_T24 l2 x45_2).f2) t417 _ ?side1 ?side2 A42.out).mono ?_); (case side1 => repeat (first | exact (Kd.C_below HR415_2.out HB.out) | (with_reducible refine Kd.C_alloc ?_ _) | (with_reducible refine Kd.C_drewN ?_ _) | (with_reducible refine Kd.C_drew ?_))); (case side2 => exact HC415_2.out); rintro e w45 ⟨rfl, hb⟩; replace BK407 := zk BK407 hb; replace BK408 := zk BK408 hb; replace BK409 := zk BK409 hb; replace BK416 := zk BK416 hb; replace HB := zb HB hb; (try clear hb); (try clear hb2); (try clear hk); (try clear hi))))
              go_roundg kj22
              case measure => have := HJ3.out; have := HK2.out; have := HJ22.out; omega
              case rel => exact ⟨(wrap64 (x45_2 + 1)), (x409000_2), (x409001_2), (by first | rfl | (simp; done) | (simp [*]; done)), H', ⟨by have := HJ3.out; have := HK2.out; have := HJ22.out; omega⟩, ⟨by exact zk0 BK407⟩, ⟨by exact zk0 BK408⟩, ⟨by exact zk0 BK409⟩, ⟨by exact zb0 HB⟩⟩
             ·rw [if_neg c43] at H
              have c43b0 : (t417 == 0) = false := beq_eq_false_iff_ne.mpr c43
              have c43b1 : (t417 != 0) = true := bne_iff_ne.mpr c43
              simp only [Option.some.injEq, Prod.mk.injEq] at H
              obtain ⟨rfl, rfl, rfl, rfl⟩ := H
              have hnb46 := NB416_407.out
              have hnc46 := NB407_416.out
              have hnb47 := NB416_408.out
              have hnc47 := NB408_416.out
              have hnb48 := NB416_409.out
              have hnc48 := NB409_416.out
              obtain ⟨hcz49_0, hcz49_1, hcz49_2, hfz49_0, hfz49_1, hfz49_2⟩ := zq3 BK416
              go_wp2_with (first | (go_at_call 18; (with_reducible refine (raster_Check.calls kj22 ((rd_T24 l2 x45_2).f0) ((rd_T24 l2 x45_2).f1) _ _ ((rd_T24 l2 x45_2).f2) t417 _ ?side1 ?side2 A42.out).mono ?_); (case side1 => repeat (first | exact (Kd.C_below HR415_2.out HB.out) | (with_reducible refine Kd.C_alloc ?_ _) | (with_reducible refine Kd.C_drewN ?_ _) | (with_reducible refine Kd.C_drew ?_))); (case side2 => exact HC415_2.out); rintro e w50 ⟨rfl, hb⟩; replace BK407 := zk BK407 hb; replace BK408 := zk BK408 hb; replace BK409 := zk BK409 hb; replace BK416 := zk BK416 hb; replace HB := zb HB hb; (try clear hb); (try clear hb2); (try clear hk); (try clear hi); have hnb51 := NB408_407.out; have hnc51 := NB407_408.out; have hnb52 := NB408_409.out; have hnc52 := NB409_408.out; obtain ⟨hcz53_0, hcz53_1, hcz53_2, hfz53_0, hfz53_1, hfz53_2⟩ := zq3 BK408))
              repeat (go_quiet (first | (go_at_call 18; (with_reducible refine (raster_Check.calls kj22 ((rd_T24 l2 x45_2).f0) ((rd_T24 l2 x45_2).f1) _ _ ((rd_T24 l2 x45_2).f2) t417 _ ?side1 ?side2 A42.out).mono ?_); (case side1 => repeat (first | exact (Kd.C_below HR415_2.out HB.out) | (with_reducible refine Kd.C_alloc ?_ _) | (with_reducible refine Kd.C_drewN ?_ _) | (with_reducible refine Kd.C_drew ?_))); (case side2 => exact HC415_2.out); rintro e w50 ⟨rfl, hb⟩; replace BK407 := zk BK407 hb; replace BK408 := zk BK408 hb; replace BK409 := zk BK409 hb; replace BK416 := zk BK416 hb; replace HB := zb HB hb; (try clear hb); (try clear hb2); (try clear hk); (try clear hi); have hnb51 := NB408_407.out; have hnc51 := NB407_408.out; have hnb52 := NB408_409.out; have hnc52 := NB409_408.out; obtain ⟨hcz53_0, hcz53_1, hcz53_2, hfz53_0, hfz53_1, hfz53_2⟩ := zq3 BK408)); try go_wp2_with (first | (go_at_call 18; (with_reducible refine (raster_Check.calls kj22 ((rd_T24 l2 x45_2).f0) ((rd_T24 l2 x45_2).f1) _ _ ((rd_T24 l2 x45_2).f2) t417 _ ?side1 ?side2 A42.out).mono ?_); (case side1 => repeat (first | exact (Kd.C_below HR415_2.out HB.out) | (with_reducible refine Kd.C_alloc ?_ _) | (with_reducible refine Kd.C_drewN ?_ _) | (with_reducible refine Kd.C_drew ?_))); (case side2 => exact HC415_2.out); rintro e w50 ⟨rfl, hb⟩; replace BK407 := zk BK407 hb; replace BK408 := zk BK408 hb; replace BK409 := zk BK409 hb; replace BK416 := zk BK416 hb; replace HB := zb HB hb; (try clear hb); (try clear hb2); (try clear hk); (try clear hi); have hnb51 := NB408_407.out; have hnc51 := NB407_408.out; have hnb52 := NB408_409.out; have hnc52 := NB409_408.out; obtain ⟨hcz53_0, hcz53_1, hcz53_2, hfz53_0, hfz53_1, hfz53_2⟩ := zq3 BK408)))
              refine bodyPost_ret (results_ct rfl _ _ gb408 24 #[.int .i64 0, .int .i64 0, .slice none 0 0] (0, 0) _ rfl (by exact zp BK408 rfl) Try.underlying24 rfl (by kernel_rfl)) rfl ?_
              exact ⟨_, by first | rfl | (simp [errW_none, errW_some] <;> rfl) | (simp [*, errW_none, errW_some] <;> rfl), by first | exact Kd.R_nil _ _ _ _ _ | exact Kd.N_nil _ _ _ _ _ | exact Kd.V_nil _ _ _ _ _ | exact Kd.Q_nil _ _ _ _ _ | exact Kd.S_nil _ _ _ _ _, by exact zbo HB GE408⟩
         ·rw [if_neg c22] at H
          exact absurd H (by simp)
        ·rw [if_neg c21] at H
         exact absurd H (by simp)
       ·rw [if_neg c20] at H
        have c20b0 : decide (x45_2 < (l2.length : Int)) = false := decide_eq_false c20
        clear c20
        replace H := Option.bind_eq_some_iff.mp H
        obtain ⟨⟨t410, t411, t412⟩, A540, H⟩ := H
        replace H : (some (t410, t411, t412, 0)) = some (r1, r2, r3, r4) := H
        have A54 := Aside0.mk A540
        clear A540
        simp only [Option.some.injEq, Prod.mk.injEq] at H
        obtain ⟨rfl, rfl, rfl, rfl⟩ := H
        go_wp2_with (first | (go_at_call 40; (with_reducible refine (raster_fill__raster_Join_1.calls k2 a0 a1 gb407 gb409 A2 c2 l2 (wrap64 (Int.tdiv (wrap64 ((wrap64 (a0 + 16)) - 1)) 16)) t410 t411 t412 _ ?side1 ?side2 ?side3 ?side4 A54.out).mono ?_); (case side1 => exact zk0 BK407); (case side2 => exact zk0 BK409); (case side3 => repeat (first | exact (Kd.C_below HR2.out HB.out) | (with_reducible refine Kd.C_alloc ?_ _) | (with_reducible refine Kd.C_drewN ?_ _) | (with_reducible refine Kd.C_drew ?_))); (case side4 => exact HC2.out); rintro e w55 ⟨v413, rfl, ho0, hb⟩; have HO414 := zl HB ho0; replace BK407 := zk BK407 hb; replace BK408 := zk BK408 hb; replace BK409 := zk BK409 hb; replace HB := zb HB hb; (try clear hb); (try clear hb2); (try clear hk); (try clear hi); (try clear ho0); have hnb56 := NB408_407.out; have hnc56 := NB407_408.out; have hnb57 := NB408_409.out; have hnc57 := NB409_408.out; obtain ⟨hcz58_0, hcz58_1, hcz58_2, hfz58_0, hfz58_1, hfz58_2⟩ := zq3 BK408; obtain ⟨Ao59, co59, eo59⟩ := Kd.R_slice HO414.out; subst eo59))
        repeat (go_quiet (first | (go_at_call 40; (with_reducible refine (raster_fill__raster_Join_1.calls k2 a0 a1 gb407 gb409 A2 c2 l2 (wrap64 (Int.tdiv (wrap64 ((wrap64 (a0 + 16)) - 1)) 16)) t410 t411 t412 _ ?side1 ?side2 ?side3 ?side4 A54.out).mono ?_); (case side1 => exact zk0 BK407); (case side2 => exact zk0 BK409); (case side3 => repeat (first | exact (Kd.C_below HR2.out HB.out) | (with_reducible refine Kd.C_alloc ?_ _) | (with_reducible refine Kd.C_drewN ?_ _) | (with_reducible refine Kd.C_drew ?_))); (case side4 => exact HC2.out); rintro e w55 ⟨v413, rfl, ho0, hb⟩; have HO414 := zl HB ho0; replace BK407 := zk BK407 hb; replace BK408 := zk BK408 hb; replace BK409 := zk BK409 hb; replace HB := zb HB hb; (try clear hb); (try clear hb2); (try clear hk); (try clear hi); (try clear ho0); have hnb56 := NB408_407.out; have hnc56 := NB407_408.out; have hnb57 := NB408_409.out; have hnc57 := NB409_408.out; obtain ⟨hcz58_0, hcz58_1, hcz58_2, hfz58_0, hfz58_1, hfz58_2⟩ := zq3 BK408; obtain ⟨Ao59, co59, eo59⟩ := Kd.R_slice HO414.out; subst eo59)); try go_wp2_with (first | (go_at_call 40; (with_reducible refine (raster_fill__raster_Join_1.calls k2 a0 a1 gb407 gb409 A2 c2 l2 (wrap64 (Int.tdiv (wrap64 ((wrap64 (a0 + 16)) - 1)) 16)) t410 t411 t412 _ ?side1 ?side2 ?side3 ?side4 A54.out).mono ?_); (case side1 => exact zk0 BK407); (case side2 => exact zk0 BK409); (case side3 => repeat (first | exact (Kd.C_below HR2.out HB.out) | (with_reducible refine Kd.C_alloc ?_ _) | (with_reducible refine Kd.C_drewN ?_ _) | (with_reducible refine Kd.C_drew ?_))); (case side4 => exact HC2.out); rintro e w55 ⟨v413, rfl, ho0, hb⟩; have HO414 := zl HB ho0; replace BK407 := zk BK407 hb; replace BK408 := zk BK408 hb; replace BK409 := zk BK409 hb; replace HB := zb HB hb; (try clear hb); (try clear hb2); (try clear hk); (try clear hi); (try clear ho0); have hnb56 := NB408_407.out; have hnc56 := NB407_408.out; have hnb57 := NB408_409.out; have hnc57 := NB409_408.out; obtain ⟨hcz58_0, hcz58_1, hcz58_2, hfz58_0, hfz58_1, hfz58_2⟩ := zq3 BK408; obtain ⟨Ao59, co59, eo59⟩ := Kd.R_slice HO414.out; subst eo59)))
        refine bodyPost_ret (results_ct rfl _ _ gb408 24 #[.int .i64 t410, .int .i64 t411, .slice Ao59 t412.length co59] (0, 0) _ rfl (by exact zp BK408 rfl) Try.underlying24 rfl (by kernel_rfl)) rfl ?_
        exact ⟨_, by first | rfl | (simp [errW_none, errW_some] <;> rfl) | (simp [*, errW_none, errW_some] <;> rfl), by exact zro HO414 BK408 (by decide), by exact zbo HB GE408⟩
    ·rw [if_neg c13] at H
     have c13b0 : ((l2.length : Int) == (wrap64 ((wrap64 (Int.tdiv (wrap64 ((wrap64 (a0 + 16)) - 1)) 16)) * (wrap64 (Int.tdiv (wrap64 ((wrap64 (a1 + 16)) - 1)) 16))))) = false := beq_eq_false_iff_ne.mpr c13
     have c13b1 : ((l2.length : Int) != (wrap64 ((wrap64 (Int.tdiv (wrap64 ((wrap64 (a0 + 16)) - 1)) 16)) * (wrap64 (Int.tdiv (wrap64 ((wrap64 (a1 + 16)) - 1)) 16))))) = true := bne_iff_ne.mpr c13
     simp only [Option.some.injEq, Prod.mk.injEq] at H
     obtain ⟨rfl, rfl, rfl, rfl⟩ := H
     go_wp2_with (first | ((with_reducible refine gate_dst (N := 8) rfl ?_); (try (refine gate_guard (by rfl) ?_; dsimp only)); refine box_event ?hg (N := 8) ?hd (cs := #[.int .i64 0]) (t := 3) ?hr ?_; (case hd => rfl); (case hg => rfl); (case hr => first | (go_simp; done) | (go_simp; rfl)); intro gb409 hg w60 hbox hb; have GW409 := zg HB hg; have GE409 := zg HB hg; have NB407_409 := zn BK407 hg; have NB409_407 := zn' BK407 hg; have NB408_409 := zn BK408 hg; have NB409_408 := zn' BK408 hg; have n0_ := Aside0.mk (hbox); replace BK407 := zk BK407 hb; replace BK408 := zk BK408 hb; replace HB := zb HB hb; have BK409 := n0_; clear n0_; clear hb hbox hg; have hnb61 := NB409_407.out; have hnc61 := NB407_409.out; have hnb62 := NB409_408.out; have hnc62 := NB408_409.out; obtain ⟨hcz63_0, hfz63_0⟩ := zq1 BK409; have hnb64 := NB407_408.out; have hnc64 := NB408_407.out; obtain ⟨hcz65_0, hfz65_0⟩ := zq1 BK407; obtain ⟨hcz66_0, hcz66_1, hcz66_2, hfz66_0, hfz66_1, hfz66_2⟩ := zq3 BK408))
     repeat (go_quiet (first | ((with_reducible refine gate_dst (N := 8) rfl ?_); (try (refine gate_guard (by rfl) ?_; dsimp only)); refine box_event ?hg (N := 8) ?hd (cs := #[.int .i64 0]) (t := 3) ?hr ?_; (case hd => rfl); (case hg => rfl); (case hr => first | (go_simp; done) | (go_simp; rfl)); intro gb409 hg w60 hbox hb; have GW409 := zg HB hg; have GE409 := zg HB hg; have NB407_409 := zn BK407 hg; have NB409_407 := zn' BK407 hg; have NB408_409 := zn BK408 hg; have NB409_408 := zn' BK408 hg; have n0_ := Aside0.mk (hbox); replace BK407 := zk BK407 hb; replace BK408 := zk BK408 hb; replace HB := zb HB hb; have BK409 := n0_; clear n0_; clear hb hbox hg; have hnb61 := NB409_407.out; have hnc61 := NB407_409.out; have hnb62 := NB409_408.out; have hnc62 := NB408_409.out; obtain ⟨hcz63_0, hfz63_0⟩ := zq1 BK409; have hnb64 := NB407_408.out; have hnc64 := NB408_407.out; obtain ⟨hcz65_0, hfz65_0⟩ := zq1 BK407; obtain ⟨hcz66_0, hcz66_1, hcz66_2, hfz66_0, hfz66_1, hfz66_2⟩ := zq3 BK408)); try go_wp2_with (first | ((with_reducible refine gate_dst (N := 8) rfl ?_); (try (refine gate_guard (by rfl) ?_; dsimp only)); refine box_event ?hg (N := 8) ?hd (cs := #[.int .i64 0]) (t := 3) ?hr ?_; (case hd => rfl); (case hg => rfl); (case hr => first | (go_simp; done) | (go_simp; rfl)); intro gb409 hg w60 hbox hb; have GW409 := zg HB hg; have GE409 := zg HB hg; have NB407_409 := zn BK407 hg; have NB409_407 := zn' BK407 hg; have NB408_409 := zn BK408 hg; have NB409_408 := zn' BK408 hg; have n0_ := Aside0.mk (hbox); replace BK407 := zk BK407 hb; replace BK408 := zk BK408 hb; replace HB := zb HB hb; have BK409 := n0_; clear n0_; clear hb hbox hg; have hnb61 := NB409_407.out; have hnc61 := NB407_409.out; have hnb62 := NB409_408.out; have hnc62 := NB408_409.out; obtain ⟨hcz63_0, hfz63_0⟩ := zq1 BK409; have hnb64 := NB407_408.out; have hnc64 := NB408_407.out; obtain ⟨hcz65_0, hfz65_0⟩ := zq1 BK407; obtain ⟨hcz66_0, hcz66_1, hcz66_2, hfz66_0, hfz66_1, hfz66_2⟩ := zq3 BK408)))
     refine bodyPost_ret (results_ct rfl _ _ gb408 24 #[.int .i64 0, .int .i64 0, .slice none 0 0] (0, 0) _ rfl (by (with_reducible repeat (first | refine blk_drewN ?_ _ | refine blk_drew ?_ | refine blk_alloc ?_ _)); refine blk_put (cs := #[.int .i64 0, .int .i64 0, .slice none 0 0]) ?_ 2 _ rfl; (with_reducible repeat (first | refine blk_drewN ?_ _ | refine blk_drew ?_ | refine blk_alloc ?_ _)); refine blk_put (cs := #[.int .i64 0, .int .i64 0, .slice none 0 0]) ?_ 1 _ rfl; (with_reducible repeat (first | refine blk_drewN ?_ _ | refine blk_drew ?_ | refine blk_alloc ?_ _)); refine blk_put (cs := #[.int .i64 0, .int .i64 0, .slice none 0 0]) ?_ 0 _ rfl; (with_reducible repeat (first | refine blk_drewN ?_ _ | refine blk_drew ?_ | refine blk_alloc ?_ _)); refine blk_far ?_ NB408_409.out _; (with_reducible repeat (first | refine blk_drewN ?_ _ | refine blk_drew ?_ | refine blk_alloc ?_ _)); exact BK408.out) Try.underlying24 rfl (by kernel_rfl)) rfl ?_
     exact ⟨_, by first | rfl | (simp [errW_none, errW_some] <;> rfl) | (simp [*, errW_none, errW_some] <;> rfl), by first | exact Kd.R_nil _ _ _ _ _ | exact Kd.N_nil _ _ _ _ _ | exact Kd.V_nil _ _ _ _ _ | exact Kd.Q_nil _ _ _ _ _ | exact Kd.S_nil _ _ _ _ _, by repeat (first | (with_reducible first | exact HB.out | apply below_alloc | apply pw_below_drewN | apply below_drew1 | refine below_set ?_ GE408.out | refine below_set ?_ GE409.out) | exact HB.out)⟩

end Go.Proofs.Ytjepbimgddgijaa.G
