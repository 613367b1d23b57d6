/- Contracts of functions of the program, each as it is called: what it computes (.f), that it computes no less with more rounds (.mono), and that a call returns just that (.calls). No conditions but those that each contract names. Written by a program of this session (wip/gx.py over the kit's print). -/
import Derived.Test.YtjepbimgddgijaaG0
import Derived.Test.YtjepbimgddgijaaG1
import Derived.Test.YtjepbimgddgijaaG2
import Derived.Test.YtjepbimgddgijaaG9
import Derived.Test.YtjepbimgddgijaaG10
import Derived.Test.YtjepbimgddgijaaG11
namespace Go.Proofs.Ytjepbimgddgijaa.G
open Go.RowKit Go.Proofs.YtjepbimgddgijaaW.PrintWords Go.Proofs.YtjepbimgddgijaaW.PrintLast Go.Proofs.YtjepbimgddgijaaW.PrintMore
attribute [local go_sem] max2_int min2_int max_two min_two max_three min_three max_four min_four   -- for this text's walks alone
set_option linter.unusedVariables false
set_option linter.unusedSimpArgs false


/-! ### imageeditorref11_Join: function 36 -/
mutual
def imageeditorref11_Join.j0 : Nat → Int → Int → List (S24) → Bool → Option (Int × Int × (List (S26)) × Int)
 | 0, _, _, _, _ => none
 | k + 1, x0, x1, x2, x28 => if x28 = true then (some (0, 0, ([] : List (S26)), 15)) else (if (x2.length : Int) = (wrap64 ((wrap64 (Int.tdiv (wrap64 (x0 + 15)) 16)) * (wrap64 (Int.tdiv (wrap64 (x1 + 15)) 16)))) then (imageeditorref11_Join.l0 k x0 x1 x2 (wrap64 (Int.tdiv (wrap64 (x0 + 15)) 16)) 0) else (some (0, 0, ([] : List (S26)), 15)))
def imageeditorref11_Join.l0 : Nat → Int → Int → List (S24) → Int → Int → Option (Int × Int × (List (S26)) × Int)
 | 0, _, _, _, _, _ => none
 | k + 1, x0, x1, x2, x8, x10 => if x10 < (x2.length : Int) then (if 0 ≤ x10 then (if x8 = 0 then (none) else (if ((rd_T24 x2 x10).f0) = (mn 16 (wrap64 (x0 - (wrap64 (16 * (Int.tmod x10 x8)))))) then (imageeditorref11_Join.j2 k x0 x1 x2 x8 x10 (((rd_T24 x2 x10).f1) != (mn 16 (wrap64 (x1 - (wrap64 (16 * (wrap64 (Int.tdiv x10 x8))))))))) else (imageeditorref11_Join.j2 k x0 x1 x2 x8 x10 true))) else (none)) else (imageeditorref11_Join.l1 k x0 x1 x2 x8 0 x0 x1 ([] : List (S26)))
def imageeditorref11_Join.j2 : Nat → Int → Int → List (S24) → Int → Int → Bool → Option (Int × Int × (List (S26)) × Int)
 | 0, _, _, _, _, _, _ => none
 | k + 1, x0, x1, x2, x8, x10, x76 => if x76 = true then (some (0, 0, ([] : List (S26)), 15)) else (if 0 ≤ x10 then (if x10 < (x2.length : Int) then ((imageeditorref11_Check.f k ((rd_T24 x2 x10).f0) ((rd_T24 x2 x10).f1) ((rd_T24 x2 x10).f2)).bind fun t763 => (if t763 = 0 then (imageeditorref11_Join.l0 k x0 x1 x2 x8 (wrap64 (x10 + 1))) else (some (0, 0, ([] : List (S26)), t763)))) else (none)) else (none))
def imageeditorref11_Join.l1 : Nat → Int → Int → List (S24) → Int → Int → Int → Int → List (S26) → Option (Int × Int × (List (S26)) × Int)
 | 0, _, _, _, _, _, _, _, _ => none
 | k + 1, x0, x1, x2, x8, x13, x765000, x765001, x765002 => if x13 < x1 then (imageeditorref11_Join.l2 k x0 x1 x2 x8 x13 0 x765000 x765001 x765002) else (some (x765000, x765001, x765002, 0))
def imageeditorref11_Join.l2 : Nat → Int → Int → List (S24) → Int → Int → Int → Int → Int → List (S26) → Option (Int × Int × (List (S26)) × Int)
 | 0, _, _, _, _, _, _, _, _, _ => none
 | k + 1, x0, x1, x2, x8, x13, x14, x765000, x765001, x765002 => if x14 < x0 then (if 0 ≤ (wrap64 ((wrap64 ((wrap64 (Int.tdiv x13 16)) * x8)) + (wrap64 (Int.tdiv x14 16)))) then (if (wrap64 ((wrap64 ((wrap64 (Int.tdiv x13 16)) * x8)) + (wrap64 (Int.tdiv x14 16)))) < (x2.length : Int) then ((imageeditorref11_Pick.f ((rd_T24 x2 (wrap64 ((wrap64 ((wrap64 (Int.tdiv x13 16)) * x8)) + (wrap64 (Int.tdiv x14 16))))).f0) ((rd_T24 x2 (wrap64 ((wrap64 ((wrap64 (Int.tdiv x13 16)) * x8)) + (wrap64 (Int.tdiv x14 16))))).f1) ((rd_T24 x2 (wrap64 ((wrap64 ((wrap64 (Int.tdiv x13 16)) * x8)) + (wrap64 (Int.tdiv x14 16))))).f2) (Int.tmod x14 16) (Int.tmod x13 16)).bind fun bt766 => (if x765002.length < 4398046511104 then (imageeditorref11_Join.l2 k x0 x1 x2 x8 x13 (wrap64 (x14 + 1)) x765000 x765001 (x765002 ++ [(⟨bt766.1, bt766.2.1, bt766.2.2.1, bt766.2.2.2⟩ : S26)])) else (none))) else (none)) else (none)) else (imageeditorref11_Join.l1 k x0 x1 x2 x8 (wrap64 (x13 + 1)) x765000 x765001 x765002)
end
def imageeditorref11_Join.f (k : Nat) (a0 : Int) (a1 : Int) (l2 : List (S24)) : Option (Int × Int × (List (S26)) × Int) := if a0 < 1 then (imageeditorref11_Join.j0 k a0 a1 l2 true) else (if a0 > 256 then (imageeditorref11_Join.j0 k a0 a1 l2 true) else (if a1 < 1 then (imageeditorref11_Join.j0 k a0 a1 l2 true) else (imageeditorref11_Join.j0 k a0 a1 l2 (decide (a1 > 256)))))
theorem imageeditorref11_Join.mono_l : ∀ k, (∀ y0 y1 y2 y3, LeO (imageeditorref11_Join.j0 k y0 y1 y2 y3) (imageeditorref11_Join.j0 (k + 1) y0 y1 y2 y3)) ∧ (∀ y0 y1 y2 y3 y4, LeO (imageeditorref11_Join.l0 k y0 y1 y2 y3 y4) (imageeditorref11_Join.l0 (k + 1) y0 y1 y2 y3 y4)) ∧ (∀ y0 y1 y2 y3 y4 y5, LeO (imageeditorref11_Join.j2 k y0 y1 y2 y3 y4 y5) (imageeditorref11_Join.j2 (k + 1) y0 y1 y2 y3 y4 y5)) ∧ (∀ y0 y1 y2 y3 y4 y5 y6 y7, LeO (imageeditorref11_Join.l1 k y0 y1 y2 y3 y4 y5 y6 y7) (imageeditorref11_Join.l1 (k + 1) y0 y1 y2 y3 y4 y5 y6 y7)) ∧ (∀ y0 y1 y2 y3 y4 y5 y6 y7 y8, LeO (imageeditorref11_Join.l2 k y0 y1 y2 y3 y4 y5 y6 y7 y8) (imageeditorref11_Join.l2 (k + 1) y0 y1 y2 y3 y4 y5 y6 y7 y8))
 | 0 => ⟨fun _ _ _ _ r h => by simp [imageeditorref11_Join.j0] at h, fun _ _ _ _ _ r h => by simp [imageeditorref11_Join.l0] at h, fun _ _ _ _ _ _ r h => by simp [imageeditorref11_Join.j2] at h, fun _ _ _ _ _ _ _ _ r h => by simp [imageeditorref11_Join.l1] at h, fun _ _ _ _ _ _ _ _ _ r h => by simp [imageeditorref11_Join.l2] at h⟩
 | k + 1 => by
  obtain ⟨ih0, ih1, ih2, ih3, ih4⟩ := imageeditorref11_Join.mono_l k
  refine ⟨?_, ?_, ?_, ?_, ?_⟩
  ·intro y0 y1 y2 y3
   unfold imageeditorref11_Join.j0
   repeat' first
   | (with_reducible exact ih0 _ _ _ _)
   | (with_reducible exact ih1 _ _ _ _ _)
   | (with_reducible exact ih2 _ _ _ _ _ _)
   | (with_reducible exact ih3 _ _ _ _ _ _ _ _)
   | (with_reducible exact ih4 _ _ _ _ _ _ _ _ _)
   | (with_reducible exact imageeditorref11_Check.mono _ _ _ _)
   | (with_reducible exact LeO.refl _)
   | (with_reducible exact LeO.none _)
   | (with_reducible refine LeO.ite ?_ ?_)
   | (with_reducible refine LeO.bind ?_ (fun _ => ?_))
   | exact ih0 _ _ _ _
   | exact ih1 _ _ _ _ _
   | exact ih2 _ _ _ _ _ _
   | exact ih3 _ _ _ _ _ _ _ _
   | exact ih4 _ _ _ _ _ _ _ _ _
   | exact imageeditorref11_Check.mono _ _ _ _
   | exact LeO.none _
   | refine LeO.ite ?_ ?_
   | refine LeO.bind ?_ (fun _ => ?_)
  ·intro y0 y1 y2 y3 y4
   unfold imageeditorref11_Join.l0
   repeat' first
   | (with_reducible exact ih0 _ _ _ _)
   | (with_reducible exact ih1 _ _ _ _ _)
   | (with_reducible exact ih2 _ _ _ _ _ _)
   | (with_reducible exact ih3 _ _ _ _ _ _ _ _)
   | (with_reducible exact ih4 _ _ _ _ _ _ _ _ _)
   | (with_reducible exact imageeditorref11_Check.mono _ _ _ _)
   | (with_reducible exact LeO.refl _)
   | (with_reducible exact LeO.none _)
   | (with_reducible refine LeO.ite ?_ ?_)
   | (with_reducible refine LeO.bind ?_ (fun _ => ?_))
   | exact ih0 _ _ _ _
   | exact ih1 _ _ _ _ _
   | exact ih2 _ _ _ _ _ _
   | exact ih3 _ _ _ _ _ _ _ _
   | exact ih4 _ _ _ _ _ _ _ _ _
   | exact imageeditorref11_Check.mono _ _ _ _
   | exact LeO.none _
   | refine LeO.ite ?_ ?_
   | refine LeO.bind ?_ (fun _ => ?_)
  ·intro y0 y1 y2 y3 y4 y5
   unfold imageeditorref11_Join.j2
   repeat' first
   | (with_reducible exact ih0 _ _ _ _)
   | (with_reducible exact ih1 _ _ _ _ _)
   | (with_reducible exact ih2 _ _ _ _ _ _)
   | (with_reducible exact ih3 _ _ _ _ _ _ _ _)
   | (with_reducible exact ih4 _ _ _ _ _ _ _ _ _)
   | (with_reducible exact imageeditorref11_Check.mono _ _ _ _)
   | (with_reducible exact LeO.refl _)
   | (with_reducible exact LeO.none _)
   | (with_reducible refine LeO.ite ?_ ?_)
   | (with_reducible refine LeO.bind ?_ (fun _ => ?_))
   | exact ih0 _ _ _ _
   | exact ih1 _ _ _ _ _
   | exact ih2 _ _ _ _ _ _
   | exact ih3 _ _ _ _ _ _ _ _
   | exact ih4 _ _ _ _ _ _ _ _ _
   | exact imageeditorref11_Check.mono _ _ _ _
   | exact LeO.none _
   | refine LeO.ite ?_ ?_
   | refine LeO.bind ?_ (fun _ => ?_)
  ·intro y0 y1 y2 y3 y4 y5 y6 y7
   unfold imageeditorref11_Join.l1
   repeat' first
   | (with_reducible exact ih0 _ _ _ _)
   | (with_reducible exact ih1 _ _ _ _ _)
   | (with_reducible exact ih2 _ _ _ _ _ _)
   | (with_reducible exact ih3 _ _ _ _ _ _ _ _)
   | (with_reducible exact ih4 _ _ _ _ _ _ _ _ _)
   | (with_reducible exact imageeditorref11_Check.mono _ _ _ _)
   | (with_reducible exact LeO.refl _)
   | (with_reducible exact LeO.none _)
   | (with_reducible refine LeO.ite ?_ ?_)
   | (with_reducible refine LeO.bind ?_ (fun _ => ?_))
   | exact ih0 _ _ _ _
   | exact ih1 _ _ _ _ _
   | exact ih2 _ _ _ _ _ _
   | exact ih3 _ _ _ _ _ _ _ _
   | exact ih4 _ _ _ _ _ _ _ _ _
   | exact imageeditorref11_Check.mono _ _ _ _
   | exact LeO.none _
   | refine LeO.ite ?_ ?_
   | refine LeO.bind ?_ (fun _ => ?_)
  ·intro y0 y1 y2 y3 y4 y5 y6 y7 y8
   unfold imageeditorref11_Join.l2
   repeat' first
   | (with_reducible exact ih0 _ _ _ _)
   | (with_reducible exact ih1 _ _ _ _ _)
   | (with_reducible exact ih2 _ _ _ _ _ _)
   | (with_reducible exact ih3 _ _ _ _ _ _ _ _)
   | (with_reducible exact ih4 _ _ _ _ _ _ _ _ _)
   | (with_reducible exact imageeditorref11_Check.mono _ _ _ _)
   | (with_reducible exact LeO.refl _)
   | (with_reducible exact LeO.none _)
   | (with_reducible refine LeO.ite ?_ ?_)
   | (with_reducible refine LeO.bind ?_ (fun _ => ?_))
   | exact ih0 _ _ _ _
   | exact ih1 _ _ _ _ _
   | exact ih2 _ _ _ _ _ _
   | exact ih3 _ _ _ _ _ _ _ _
   | exact ih4 _ _ _ _ _ _ _ _ _
   | exact imageeditorref11_Check.mono _ _ _ _
   | exact LeO.none _
   | refine LeO.ite ?_ ?_
   | refine LeO.bind ?_ (fun _ => ?_)
theorem imageeditorref11_Join.mono : ∀ a0 a1 a2 k, LeO (imageeditorref11_Join.f k a0 a1 a2) (imageeditorref11_Join.f (k + 1) a0 a1 a2) := by
 intro a0 a1 a2 k
 obtain ⟨ih0, ih1, ih2, ih3, ih4⟩ := imageeditorref11_Join.mono_l k
 unfold imageeditorref11_Join.f
 repeat' first
   | (with_reducible exact ih0 _ _ _ _)
   | (with_reducible exact ih1 _ _ _ _ _)
   | (with_reducible exact ih2 _ _ _ _ _ _)
   | (with_reducible exact ih3 _ _ _ _ _ _ _ _)
   | (with_reducible exact ih4 _ _ _ _ _ _ _ _ _)
   | (with_reducible exact imageeditorref11_Check.mono _ _ _ _)
   | (with_reducible exact LeO.refl _)
   | (with_reducible exact LeO.none _)
   | (with_reducible refine LeO.ite ?_ ?_)
   | (with_reducible refine LeO.bind ?_ (fun _ => ?_))
   | exact ih0 _ _ _ _
   | exact ih1 _ _ _ _ _
   | exact ih2 _ _ _ _ _ _
   | exact ih3 _ _ _ _ _ _ _ _
   | exact ih4 _ _ _ _ _ _ _ _ _
   | exact imageeditorref11_Check.mono _ _ _ _
   | exact LeO.none _
   | refine LeO.ite ?_ ?_
   | refine LeO.bind ?_ (fun _ => ?_)
def imageeditorref11_Join.T10 : Bool × List (List Nat × List Nat) := (true, [([], []), ([], []), ([0, 1], [0, 1]), ([2], [2]), ([3], [3]), ([], []), ([], []), ([], []), ([6, 7], [6, 7]), ([8], [8]), ([5, 9], [5, 9]), ([10], [10]), ([4, 11], [4, 11]), ([12], [12]), ([13], [13]), ([13], [13]), ([14, 15, 13], [13, 14, 15]), ([16, 13], [13, 16]), ([17, 13], [13, 17]), ([13], [13]), ([13], [13]), ([13], [13]), ([20, 21, 13], [13, 20, 21]), ([22, 13], [13, 22]), ([19, 23, 13], [13, 19, 23]), ([24, 13], [13, 24]), ([18, 25, 13], [13, 18, 25]), ([13, 26], [13, 26])])
def imageeditorref11_Join.B10 : List Nat := [0, 0, 3, 7, 15, 0, 0, 0, 192, 448, 992, 2016, 4095, 8191, 16383, 16383, 65535, 131071, 262143, 16383, 16383, 16383, 3162111, 7356415, 16269311, 33046527, 67108863, 134217727]
theorem imageeditorref11_Join.tab10 : rtab .any (opsOf Try.f36 10) = imageeditorref11_Join.T10 := by kernel_rfl
theorem imageeditorref11_Join.bits10 : waitsOk imageeditorref11_Join.T10.2 imageeditorref11_Join.B10 = true := by kernel_rfl
def imageeditorref11_Join.T22 : Bool × List (List Nat × List Nat) := (true, [([], []), ([0], [0]), ([], []), ([], []), ([3], [3]), ([], []), ([4, 5], [4, 5]), ([], []), ([7], [7]), ([6, 8], [6, 8]), ([2, 9], [2, 9]), ([10], [10]), ([], []), ([12], [12]), ([], []), ([14], [14]), ([11, 13, 15], [11, 13, 15]), ([16], [16]), ([1, 17, 16], [1, 17]), ([0, 1, 2, 3, 4, 5, 6, 7, 8, 9, 10, 11, 12, 13, 14, 15, 16, 17, 18], []), ([19, 18, 18, 0, 1, 2, 3, 4, 5, 6, 7, 8, 9, 10, 11, 12, 13, 14, 15, 16, 17, 18], [18, 19])])
def imageeditorref11_Join.B22 : List Nat := [0, 1, 0, 0, 8, 0, 56, 0, 128, 504, 1020, 2044, 0, 4096, 0, 16384, 65532, 131068, 262143, 524287, 1048575]
theorem imageeditorref11_Join.tab22 : rtab .any (opsOf Try.f36 22) = imageeditorref11_Join.T22 := by kernel_rfl
theorem imageeditorref11_Join.bits22 : waitsOk imageeditorref11_Join.T22.2 imageeditorref11_Join.B22 = true := by kernel_rfl
set_option maxHeartbeats 8000000 in
set_option maxRecDepth 100000 in
theorem imageeditorref11_Join.calls (k : Nat) (a0 : Int) (a1 : Int) (A2 : Option Addr) (c2 : Nat) (l2 : List (S24)) (r1 : Int) (r2 : Int) (r3 : List (S26)) (r4 : Int) (w : World) (hr2 : Kd.C k24 w A2 l2.length l2) (hc2 : l2.length ≤ c2) (h : imageeditorref11_Join.f k a0 a1 l2 = some (r1, r2, r3, r4)) :
  Calls Try.prog 36 #[.int .i64 a0, .int .i64 a1, .slice A2 l2.length c2] w fun e w' => ∃ v2_ : Value, e = .returned (.tuple #[.agg #[.int .i64 r1, .int .i64 r2, v2_], .int .i64 r4]) ∧ Kd.R k26 26 w' w.heap.size (fun _ => True) v2_ r3 ∧ Below w.heap.size w w' := by
 have hu24 := Try.underlying24
 have HR2 := Aside0.mk hr2
 have HC2 := Aside0.mk hc2
 clear hr2 hc2
 have HB := Aside0.mk (Below.refl w.heap.size w)
 have H : (if a0 < 1 then (imageeditorref11_Join.j0 k a0 a1 l2 true) else (if a0 > 256 then (imageeditorref11_Join.j0 k a0 a1 l2 true) else (if a1 < 1 then (imageeditorref11_Join.j0 k a0 a1 l2 true) else (imageeditorref11_Join.j0 k a0 a1 l2 (decide (a1 > 256)))))) = some (r1, r2, r3, r4) := h
 clear h
 have HC4 := Aside0.mk H
 clear H
 go_enter Try.func36, Try.ntmps36
 go_upto_region 1 with (first | ((with_reducible refine gate_dst (N := 6) rfl ?_); (try (refine gate_guard (by rfl) ?_; dsimp only)); refine box_event ?hg (N := 6) ?hd (cs := #[.int .i64 0, .int .i64 0, .slice none 0 0]) (t := 24) ?hr ?_; (case hd => rfl); (case hg => rfl); (case hr => first | (go_simp; done) | (go_simp; rfl)); intro gb759 hg w5 hbox hb; have GW759 := zg HB hg; have GE759 := zg HB hg; have n0_ := Aside0.mk (hbox); replace HB := zb HB hb; have BK759 := n0_; clear n0_; clear hb hbox hg))
 (try simp only [Act.put, sA, sB, sC])
 go_cut [28] (fun v28 wc => ∃ (kq : Nat) (x28_3 : Bool), v28 = .bool x28_3 ∧ Aside0 (imageeditorref11_Join.j0 kq a0 a1 l2 x28_3 = some (r1, r2, r3, r4)) ∧ Aside0 (kq ≤ k) ∧ Aside0 (wc.heap[gb759]? = some (.cells #[.int .i64 0, .int .i64 0, (.slice none 0 0)] 24 (0, 0))) ∧ Aside0 (Below w.heap.size w wc))
 case first =>
  have H := HC4.out
  clear HC4
  by_cases c6 : a0 < 1
  ·rw [if_pos c6] at H
   have c6b0 : decide (a0 < 1) = true := decide_eq_true c6
   clear c6
   (first | rw [c6b0] | (simp only [i64_w, i32_w]; rw [c6b0]) | skip)
   have H' := Aside0.mk H
   clear H
   go_wp2
   go_meet
   case rel => exact ⟨_, (true), (by first | rfl | (simp; done) | (simp [*]; done)), H', ⟨by first | omega | exact Nat.le_refl _⟩, ⟨by exact zk0 BK759⟩, ⟨by exact zb0 HB⟩⟩
  ·rw [if_neg c6] at H
   have c6b0 : decide (a0 < 1) = false := decide_eq_false c6
   clear c6
   (first | rw [c6b0] | (simp only [i64_w, i32_w]; rw [c6b0]) | skip)
   by_cases c7 : a0 > 256
   ·rw [if_pos c7] at H
    have c7b0 : decide (256 < a0) = true := decide_eq_true c7
    clear c7
    have H' := Aside0.mk H
    clear H
    go_wp2
    go_meet
    case rel => exact ⟨_, (true), (by first | rfl | (simp; done) | (simp [*]; done)), H', ⟨by first | omega | exact Nat.le_refl _⟩, ⟨by exact zk0 BK759⟩, ⟨by exact zb0 HB⟩⟩
   ·rw [if_neg c7] at H
    have c7b0 : decide (256 < a0) = false := decide_eq_false c7
    clear c7
    by_cases c8 : a1 < 1
    ·rw [if_pos c8] at H
     have c8b0 : decide (a1 < 1) = true := decide_eq_true c8
     clear c8
     have H' := Aside0.mk H
     clear H
     go_wp2
     go_meet
     case rel => exact ⟨_, (true), (by first | rfl | (simp; done) | (simp [*]; done)), H', ⟨by first | omega | exact Nat.le_refl _⟩, ⟨by exact zk0 BK759⟩, ⟨by exact zb0 HB⟩⟩
    ·rw [if_neg c8] at H
     have c8b0 : decide (a1 < 1) = false := decide_eq_false c8
     clear c8
     have H' := Aside0.mk H
     clear H
     go_wp2
     go_meet
     case rel => exact ⟨_, (decide (a1 > 256)), (by first | rfl | (simp; done) | (simp [*]; done)), H', ⟨by first | omega | exact Nat.le_refl _⟩, ⟨by exact zk0 BK759⟩, ⟨by exact zb0 HB⟩⟩
 case rest =>
  clear HC4
  try clear c2
  try clear p2
  try clear c3
  try clear c6
  try clear c6b0
  try clear c7
  try clear c7b0
  try clear c8
  try clear c8b0
  obtain ⟨kq, x28_3, rfl, HA, HJ3, BK759, HB⟩ := hcut
  cases kq with
  | zero => exact absurd HA.out (by simp [imageeditorref11_Join.j0])
  | succ kj3 =>
   have H := HA.out
   clear HA
   simp only [imageeditorref11_Join.j0] at H
   by_cases c9 : x28_3 = true
   ·subst c9
    have H1 : (some (0, 0, ([] : List (S26)), 15)) = some (r1, r2, r3, r4) := by rw [if_pos rfl] at H; exact H
    clear H
    have H := H1
    clear H1
    simp only [Option.some.injEq, Prod.mk.injEq] at H
    obtain ⟨rfl, rfl, rfl, rfl⟩ := H
    obtain ⟨hcz10_0, hcz10_1, hcz10_2, hfz10_0, hfz10_1, hfz10_2⟩ := zq3 BK759
    go_wp2
    refine bodyPost_ret (results_ct rfl _ _ gb759 24 #[.int .i64 0, .int .i64 0, .slice none 0 0] (0, 0) _ rfl (by exact zp BK759 rfl) Try.underlying24 rfl (by kernel_rfl)) rfl ?_
    exact ⟨_, by first | rfl | (simp [errW_none, errW_some] <;> rfl) | (simp [*, errW_none, errW_some] <;> rfl), by first | exact Kd.R_nil _ _ _ _ _ | exact Kd.N_nil _ _ _ _ _ | exact Kd.V_nil _ _ _ _ _ | exact Kd.Q_nil _ _ _ _ _ | exact Kd.S_nil _ _ _ _ _, by exact zbo HB GE759⟩
   ·replace c9 := Bool.eq_false_iff.mpr c9
    subst c9
    have H1 : (if (l2.length : Int) = (wrap64 ((wrap64 (Int.tdiv (wrap64 (a0 + 15)) 16)) * (wrap64 (Int.tdiv (wrap64 (a1 + 15)) 16)))) then (imageeditorref11_Join.l0 kj3 a0 a1 l2 (wrap64 (Int.tdiv (wrap64 (a0 + 15)) 16)) 0) else (some (0, 0, ([] : List (S26)), 15))) = some (r1, r2, r3, r4) := by rw [if_neg (show ¬ (false = true) by decide)] at H; exact H
    clear H
    have H := H1
    clear H1
    by_cases c11 : (l2.length : Int) = (wrap64 ((wrap64 (Int.tdiv (wrap64 (a0 + 15)) 16)) * (wrap64 (Int.tdiv (wrap64 (a1 + 15)) 16))))
    ·rw [if_pos c11] at H
     have c11b0 : ((l2.length : Int) == (wrap64 ((wrap64 (Int.tdiv (wrap64 (a0 + 15)) 16)) * (wrap64 (Int.tdiv (wrap64 (a1 + 15)) 16))))) = true := beq_iff_eq.mpr c11
     have c11b1 : ((l2.length : Int) != (wrap64 ((wrap64 (Int.tdiv (wrap64 (a0 + 15)) 16)) * (wrap64 (Int.tdiv (wrap64 (a1 + 15)) 16))))) = false := bne_eq_false_iff_eq.mpr c11
     clear c11
     have H' := Aside0.mk H
     clear H
     go_wp2
     go_loopg [10] kj3 (fun kq v10 w' => ∃ (x10_2 : Int) (x760000_2 : Int) (x760001_2 : Int), v10 = .int .i64 x10_2 ∧ Aside0 (imageeditorref11_Join.l0 kq a0 a1 l2 (wrap64 (Int.tdiv (wrap64 (a0 + 15)) 16)) x10_2 = some (r1, r2, r3, r4)) ∧ Aside0 (kq ≤ kj3) ∧ Aside0 (w'.heap[gb759]? = some (.cells #[.int .i64 x760000_2, .int .i64 x760001_2, (.slice none 0 0)] 24 (0, 0))) ∧ Aside0 (Below w.heap.size w w'))
     case atStart => exact ⟨(0), (0), (0), (by first | rfl | (simp; done) | (simp [*]; done)), H', ⟨Nat.le_refl _⟩, ⟨by exact zk0 BK759⟩, ⟨by exact zb0 HB⟩⟩
     case round =>
      clear H'
      try clear c1
      try clear c2
      try clear p2
      try clear c3
      try clear q3
      try clear c6
      try clear c6b0
      try clear p6
      try clear c7
      try clear c7b0
      try clear c8
      try clear c8b0
      try clear c9
      try clear c11
      try clear c11b0
      try clear c11b1
      try clear hcz10_0
      try clear hcz10_1
      try clear hcz10_2
      try clear hfz10_0
      try clear hfz10_1
      try clear hfz10_2
      try clear p2
      obtain ⟨x10_2, x760000_2, x760001_2, rfl, HA, HK2, BK759, HB⟩ := hrel
      cases gk with
      | zero => exact absurd HA.out (by simp [imageeditorref11_Join.l0])
      | succ k2 =>
       have H := HA.out
       clear HA
       simp only [imageeditorref11_Join.l0] at H
       by_cases c12 : x10_2 < (l2.length : Int)
       ·rw [if_pos c12] at H
        have c12b0 : decide (x10_2 < (l2.length : Int)) = true := decide_eq_true c12
        clear c12
        have HC13 := Aside0.mk H
        clear H
        go_upto_region 10 with (fail)
        go_cut [76] (fun v76 wc => ∃ (kq : Nat) (x76_12 : Bool), v76 = .bool x76_12 ∧ Aside0 (imageeditorref11_Join.j2 kq a0 a1 l2 (wrap64 (Int.tdiv (wrap64 (a0 + 15)) 16)) x10_2 x76_12 = some (r1, r2, r3, r4)) ∧ Aside0 (kq ≤ k2) ∧ Aside0 (wc.heap[gb759]? = some (.cells #[.int .i64 x760000_2, .int .i64 x760001_2, (.slice none 0 0)] 24 (0, 0))) ∧ Aside0 (Below w.heap.size w wc))
        case first =>
         have H := HC13.out
         clear HC13
         by_cases c14 : 0 ≤ x10_2
         ·rw [if_pos c14] at H
          have c14b0 : decide (0 ≤ x10_2) = true := decide_eq_true c14
          clear c14
          (first | rw [c14b0] | (simp only [i64_w, i32_w]; rw [c14b0]) | skip)
          by_cases c15 : (wrap64 (Int.tdiv (wrap64 (a0 + 15)) 16)) = 0
          ·rw [if_pos c15] at H
           exact absurd H (by simp)
          ·rw [if_neg c15] at H
           have c15b0 : ((wrap64 (Int.tdiv (wrap64 (a0 + 15)) 16)) == 0) = false := beq_eq_false_iff_ne.mpr c15
           have c15b1 : ((wrap64 (Int.tdiv (wrap64 (a0 + 15)) 16)) != 0) = true := bne_iff_ne.mpr c15
           obtain ⟨ji16, hji16⟩ : ∃ j_ : Int, (mn 16 (wrap64 (a0 - (wrap64 (16 * (Int.tmod x10_2 (wrap64 (Int.tdiv (wrap64 (a0 + 15)) 16)))))))) = j_ := ⟨_, rfl⟩
           replace H : (if ((rd_T24 l2 x10_2).f0) = (ji16) then (imageeditorref11_Join.j2 k2 a0 a1 l2 (wrap64 (Int.tdiv (wrap64 (a0 + 15)) 16)) x10_2 (((rd_T24 l2 x10_2).f1) != (mn 16 (wrap64 (a1 - (wrap64 (16 * (wrap64 (Int.tdiv x10_2 (wrap64 (Int.tdiv (wrap64 (a0 + 15)) 16))))))))))) else (imageeditorref11_Join.j2 k2 a0 a1 l2 (wrap64 (Int.tdiv (wrap64 (a0 + 15)) 16)) x10_2 true)) = some (r1, r2, r3, r4) := by first | (rw [hji16] at H; exact H) | (simp only [hji16] at H ⊢; exact H)
           have hji16_ : (if (wrap64 (a0 - (wrap64 (16 * (Int.tmod x10_2 (wrap64 (Int.tdiv (wrap64 (a0 + 15)) 16))))))) < 16 then (wrap64 (a0 - (wrap64 (16 * (Int.tmod x10_2 (wrap64 (Int.tdiv (wrap64 (a0 + 15)) 16))))))) else 16) = ji16 := hji16
           by_cases c17 : ((rd_T24 l2 x10_2).f0) = (ji16)
           ·rw [if_pos c17] at H
            have c17b0 : (((rd_T24 l2 x10_2).f0) == (ji16)) = true := beq_iff_eq.mpr c17
            have c17b1 : (((rd_T24 l2 x10_2).f0) != (ji16)) = false := bne_eq_false_iff_eq.mpr c17
            clear c17
            obtain ⟨ji18, hji18⟩ : ∃ j_ : Int, (mn 16 (wrap64 (a1 - (wrap64 (16 * (wrap64 (Int.tdiv x10_2 (wrap64 (Int.tdiv (wrap64 (a0 + 15)) 16))))))))) = j_ := ⟨_, rfl⟩
            replace H : (imageeditorref11_Join.j2 k2 a0 a1 l2 (wrap64 (Int.tdiv (wrap64 (a0 + 15)) 16)) x10_2 (((rd_T24 l2 x10_2).f1) != (ji18))) = some (r1, r2, r3, r4) := by first | (rw [hji18] at H; exact H) | (simp only [hji18] at H ⊢; exact H)
            have hji18_ : (if (wrap64 (a1 - (wrap64 (16 * (wrap64 (Int.tdiv x10_2 (wrap64 (Int.tdiv (wrap64 (a0 + 15)) 16)))))))) < 16 then (wrap64 (a1 - (wrap64 (16 * (wrap64 (Int.tdiv x10_2 (wrap64 (Int.tdiv (wrap64 (a0 + 15)) 16)))))))) else 16) = ji18 := hji18
            have H' := Aside0.mk H
            clear H
            try go_wp2
            replace BK759 := zkd BK759
            replace HB := zbd HB
            have p760 : 0 ≤ (x10_2 : Int) := of_decide_eq_true (by first | (with_reducible assumption) | assumption)
            have q760 : x10_2 < (l2.length : Int) := of_decide_eq_true (by first | (with_reducible assumption) | assumption)
            obtain ⟨ad760, A760_2, c760_2, e760, hx760_0, hx760_1, hx760_2, hl760_2, hi760_2⟩ := at_T24 HR2.out x10_2 p760 q760
            have hw760_2 := hx760_2
            have hw760_1 := hx760_1
            have hw760_0 := hx760_0
            cases e760
            replace hx760_0 := (HB.out.cell (World.block_lt_of_cell? w _ hx760_0)).trans hx760_0
            replace hx760_1 := (HB.out.cell (World.block_lt_of_cell? w _ hx760_1)).trans hx760_1
            replace hx760_2 := (HB.out.cell (World.block_lt_of_cell? w _ hx760_2)).trans hx760_2
            have HR760_2 := Aside0.mk hi760_2
            have HC760_2 := Aside0.mk hl760_2
            clear hi760_2 hl760_2
            replace p760 := eq_true p760
            replace q760 := eq_true q760
            have p761 : 0 ≤ (x10_2 : Int) := of_decide_eq_true (by first | (with_reducible assumption) | assumption)
            have q761 : x10_2 < (l2.length : Int) := of_decide_eq_true (by first | (with_reducible assumption) | assumption)
            obtain ⟨ad761, A761_2, c761_2, e761, hx761_0, hx761_1, hx761_2, hl761_2, hi761_2⟩ := at_T24 HR2.out x10_2 p761 q761
            have hw761_2 := hx761_2
            have hw761_1 := hx761_1
            have hw761_0 := hx761_0
            obtain rfl : ad760 = ad761 := (by injection e761)
            replace hx761_0 := (HB.out.cell (World.block_lt_of_cell? w _ hx761_0)).trans hx761_0
            replace hx761_1 := (HB.out.cell (World.block_lt_of_cell? w _ hx761_1)).trans hx761_1
            replace hx761_2 := (HB.out.cell (World.block_lt_of_cell? w _ hx761_2)).trans hx761_2
            have HR761_2 := Aside0.mk hi761_2
            have HC761_2 := Aside0.mk hl761_2
            clear hi761_2 hl761_2
            replace p761 := eq_true p761
            replace q761 := eq_true q761
            have ea_ := Option.some.inj (hx760_2.symm.trans hx761_2)
            injection ea_ with ea_ en_ ec_
            subst ea_
            subst ec_
            clear en_
            refine start_ (n := 28) (S := fun w' => w'.cell? (ad760.add ((x10_2).toNat * 3)) = some (.int .i64 ((rd_T24 l2 x10_2).f0)) ∧ w'.cell? ⟨(ad760.add ((x10_2).toNat * 3)).block, (ad760.add ((x10_2).toNat * 3)).off + 1, none⟩ = some (.int .i64 ((rd_T24 l2 x10_2).f1)) ∧ w'.cell? ⟨(ad760.add ((x10_2).toNat * 3)).block, (ad760.add ((x10_2).toNat * 3)).off + 2, none⟩ = some (.slice A760_2 ((rd_T24 l2 x10_2).f2).length c760_2) ∧ w'.cell? (ad760.add ((x10_2).toNat * 3)) = some (.int .i64 ((rd_T24 l2 x10_2).f0)) ∧ w'.cell? ⟨(ad760.add ((x10_2).toNat * 3)).block, (ad760.add ((x10_2).toNat * 3)).off + 1, none⟩ = some (.int .i64 ((rd_T24 l2 x10_2).f1)) ∧ w'.cell? ⟨(ad760.add ((x10_2).toNat * 3)).block, (ad760.add ((x10_2).toNat * 3)).off + 2, none⟩ = some (.slice A760_2 ((rd_T24 l2 x10_2).f2).length c760_2)) (ds := []) (bs 28 0) (by kernel_rfl) rfl rfl ⟨((HB.out.cell (World.block_lt_of_cell? w _ hw760_0)).trans hw760_0), ((HB.out.cell (World.block_lt_of_cell? w _ hw760_1)).trans hw760_1), ((HB.out.cell (World.block_lt_of_cell? w _ hw760_2)).trans hw760_2), ((HB.out.cell (World.block_lt_of_cell? w _ hw761_0)).trans hw761_0), ((HB.out.cell (World.block_lt_of_cell? w _ hw761_1)).trans hw761_1), ((HB.out.cell (World.block_lt_of_cell? w _ hw761_2)).trans hw761_2)⟩ (fun hHeld => ?_); refine with_tabW imageeditorref11_Join.tab10 imageeditorref11_Join.bits10 (fun HT_ HW_ => ?_)
            generalize wr.drew = w19 at BK759 HB HR760_2 HR761_2 hx760_0 hx760_1 hx760_2 hx761_0 hx761_1 hx761_2 hHeld ⊢
            refine pure_ (i := 0) (N := some 49) (v := ?_) (a' := ?_) (bs 28 1) rfl rfl (any_of HT_.out (by kernel_rfl)) (fun _ _ _ h => h) (Or.inl ⟨by rfl, ?_⟩) ?_ ?_
            rotate_left
            ·intro w'
             go_simp
             with_reducible rfl
            rotate_left
            ·simp only [Act.put, sA, sB, sC, i64_w, i32_w]
             rfl
            refine pure_ (i := 1) (N := some 50) (v := ?_) (a' := ?_) (bs 28 3) rfl rfl (any_of HT_.out (by kernel_rfl)) (fun _ _ _ h => h) (Or.inl ⟨by rfl, ?_⟩) ?_ ?_
            rotate_left
            ·intro w'
             go_simp
             with_reducible rfl
            rotate_left
            ·simp only [Act.put, sA, sB, sC, i64_w, i32_w]
             rfl
            refine pure_ (i := 2) (N := some 51) (v := ?_) (a' := ?_) (bs 28 7) rfl rfl (any_of HT_.out (by kernel_rfl)) (fun _ _ _ h => h) (Or.inl ⟨by rfl, ?_⟩) ?_ ?_
            rotate_left
            ·intro w'
             go_simp
             with_reducible rfl
            rotate_left
            ·simp only [Act.put, sA, sB, sC, i64_w, i32_w]
             rfl
            refine pure_ (i := 3) (N := some 52) (v := ?_) (a' := ?_) (bs 28 15) rfl rfl (any_of HT_.out (by kernel_rfl)) (fun _ _ _ h => h) (Or.inl ⟨by rfl, ?_⟩) ?_ ?_
            rotate_left
            ·intro w'
             go_simp
             with_reducible rfl
            rotate_left
            ·simp only [Act.put, sA, sB, sC, i64_w, i32_w]
             rfl
            refine pure_ (i := 5) (N := some 54) (v := ?_) (a' := ?_) (bs 28 47) rfl rfl (any_of HT_.out (by kernel_rfl)) (fun _ _ _ h => h) (Or.inl ⟨by rfl, ?_⟩) ?_ ?_
            rotate_left
            ·intro w'
             go_simp
             with_reducible rfl
            rotate_left
            ·simp only [Act.put, sA, sB, sC, i64_w, i32_w]
             rfl
            refine pure_ (i := 6) (N := some 55) (v := ?_) (a' := ?_) (bs 28 111) rfl rfl (any_of HT_.out (by kernel_rfl)) (fun _ _ _ h => h) (Or.inl ⟨by rfl, ?_⟩) ?_ ?_
            rotate_left
            ·intro w'
             go_simp
             with_reducible rfl
            rotate_left
            ·simp only [Act.put, sA, sB, sC, i64_w, i32_w]
             rfl
            refine pure_ (i := 7) (N := some 56) (v := ?_) (a' := ?_) (bs 28 239) rfl rfl (any_of HT_.out (by kernel_rfl)) (fun _ _ _ h => h) (Or.inl ⟨by rfl, ?_⟩) ?_ ?_
            rotate_left
            ·intro w'
             go_simp
             with_reducible rfl
            rotate_left
            ·simp only [Act.put, sA, sB, sC, i64_w, i32_w]
             rfl
            refine pure_ (i := 8) (N := some 57) (v := ?_) (a' := ?_) (bs 28 495) rfl rfl (any_of HT_.out (by kernel_rfl)) (fun _ _ _ h => h) (Or.inl ⟨by rfl, ?_⟩) ?_ ?_
            rotate_left
            ·intro w'
             go_simp
             with_reducible rfl
            rotate_left
            ·simp only [Act.put, sA, sB, sC, i64_w, i32_w]
             rfl
            refine pure_ (i := 9) (N := some 58) (v := ?_) (a' := ?_) (bs 28 1007) rfl rfl (any_of HT_.out (by kernel_rfl)) (fun _ _ _ h => h) (Or.inl ⟨by rfl, ?_⟩) ?_ ?_
            rotate_left
            ·intro w'
             go_simp
             with_reducible rfl
            rotate_left
            ·simp only [Act.put, sA, sB, sC, i64_w, i32_w]
             rfl
            refine pure_ (i := 10) (N := some 59) (v := ?_) (a' := ?_) (bs 28 2031) rfl rfl (any_of HT_.out (by kernel_rfl)) (fun _ _ _ h => h) (Or.inl ⟨by rfl, ?_⟩) ?_ ?_
            rotate_left
            ·intro w'
             go_simp
             with_reducible rfl
            rotate_left
            ·simp only [Act.put, sA, sB, sC, i64_w, i32_w]
             rfl
            refine pure_ (i := 11) (N := some 60) (v := ?_) (a' := ?_) (bs 28 4079) rfl rfl (any_of HT_.out (by kernel_rfl)) (fun _ _ _ h => h) (Or.inl ⟨by rfl, ?_⟩) ?_ ?_
            rotate_left
            ·intro w'
             go_simp
             with_reducible rfl
            rotate_left
            ·simp only [Act.put, sA, sB, sC, i64_w, i32_w]
             rfl
            refine take_ (i := 4) (N := some 53) (v := ?_) (a' := ?_) (bs 28 4095) rfl rfl (take_ofW HT_.out HW_.out (by kernel_rfl)) (fun _ _ _ h => h) (Or.inl ⟨by rfl, ?_⟩) hHeld ?_ ?_
            rotate_left
            ·rintro w' ⟨s0, s1, s2, s3, s4, s5⟩
             go_simp
             with_reducible rfl
            rotate_left
            ·simp only [Act.put, sA, sB, sC, i64_w, i32_w]
             rfl
            refine pure_ (i := 12) (N := some 61) (v := ?_) (a' := ?_) (bs 28 8191) rfl rfl (any_of HT_.out (by kernel_rfl)) (fun _ _ _ h => h) (Or.inl ⟨by rfl, ?_⟩) ?_ ?_
            rotate_left
            ·intro w'
             go_simp
             with_reducible rfl
            rotate_left
            ·simp only [Act.put, sA, sB, sC, i64_w, i32_w]
             rfl
            refine pure_ (i := 13) (N := some 62) (v := ?_) (a' := ?_) (bs 28 16383) rfl rfl (any_of HT_.out (by kernel_rfl)) (fun _ _ _ h => h) (Or.inl ⟨by rfl, ?_⟩) ?_ ?_
            rotate_left
            ·intro w'
             go_simp
             with_reducible rfl
            rotate_left
            ·simp only [Act.put, sA, sB, sC, i64_w, i32_w]
             rfl
            refine pure_ (i := 14) (N := some 63) (v := ?_) (a' := ?_) (bs 28 32767) rfl rfl (any_of HT_.out (by kernel_rfl)) (fun _ _ _ h => h) (Or.inl ⟨by rfl, ?_⟩) ?_ ?_
            rotate_left
            ·intro w'
             go_simp
             with_reducible rfl
            rotate_left
            ·simp only [Act.put, sA, sB, sC, i64_w, i32_w]
             rfl
            refine pure_ (i := 15) (N := some 64) (v := ?_) (a' := ?_) (bs 28 65535) rfl rfl (any_of HT_.out (by kernel_rfl)) (fun _ _ _ h => h) (Or.inl ⟨by rfl, ?_⟩) ?_ ?_
            rotate_left
            ·intro w'
             go_simp
             with_reducible rfl
            rotate_left
            ·simp only [Act.put, sA, sB, sC, i64_w, i32_w]
             rfl
            refine pure_ (i := 16) (N := some 65) (v := ?_) (a' := ?_) (bs 28 131071) rfl rfl (any_of HT_.out (by kernel_rfl)) (fun _ _ _ h => h) (Or.inl ⟨by rfl, ?_⟩) ?_ ?_
            rotate_left
            ·intro w'
             go_simp
             with_reducible rfl
            rotate_left
            ·simp only [Act.put, sA, sB, sC, i64_w, i32_w]
             rfl
            refine pure_ (i := 17) (N := some 66) (v := ?_) (a' := ?_) (bs 28 262143) rfl rfl (any_of HT_.out (by kernel_rfl)) (fun _ _ _ h => h) (Or.inl ⟨by rfl, ?_⟩) ?_ ?_
            rotate_left
            ·intro w'
             go_simp
             with_reducible rfl
            rotate_left
            ·simp only [Act.put, sA, sB, sC, i64_w, i32_w]
             rfl
            refine pure_ (i := 19) (N := some 68) (v := ?_) (a' := ?_) (bs 28 786431) rfl rfl (any_of HT_.out (by kernel_rfl)) (fun _ _ _ h => h) (Or.inl ⟨by rfl, ?_⟩) ?_ ?_
            rotate_left
            ·intro w'
             go_simp
             with_reducible rfl
            rotate_left
            ·simp only [Act.put, sA, sB, sC, i64_w, i32_w]
             rfl
            refine pure_ (i := 20) (N := some 69) (v := ?_) (a' := ?_) (bs 28 1835007) rfl rfl (any_of HT_.out (by kernel_rfl)) (fun _ _ _ h => h) (Or.inl ⟨by rfl, ?_⟩) ?_ ?_
            rotate_left
            ·intro w'
             go_simp
             with_reducible rfl
            rotate_left
            ·simp only [Act.put, sA, sB, sC, i64_w, i32_w]
             rfl
            refine pure_ (i := 21) (N := some 70) (v := ?_) (a' := ?_) (bs 28 3932159) rfl rfl (any_of HT_.out (by kernel_rfl)) (fun _ _ _ h => h) (Or.inl ⟨by rfl, ?_⟩) ?_ ?_
            rotate_left
            ·intro w'
             go_simp
             with_reducible rfl
            rotate_left
            ·simp only [Act.put, sA, sB, sC, i64_w, i32_w]
             rfl
            refine pure_ (i := 22) (N := some 71) (v := ?_) (a' := ?_) (bs 28 8126463) rfl rfl (any_of HT_.out (by kernel_rfl)) (fun _ _ _ h => h) (Or.inl ⟨by rfl, ?_⟩) ?_ ?_
            rotate_left
            ·intro w'
             go_simp
             with_reducible rfl
            rotate_left
            ·simp only [Act.put, sA, sB, sC, i64_w, i32_w]
             rfl
            refine pure_ (i := 23) (N := some 72) (v := ?_) (a' := ?_) (bs 28 16515071) rfl rfl (any_of HT_.out (by kernel_rfl)) (fun _ _ _ h => h) (Or.inl ⟨by rfl, ?_⟩) ?_ ?_
            rotate_left
            ·intro w'
             go_simp
             with_reducible rfl
            rotate_left
            ·simp only [Act.put, sA, sB, sC, i64_w, i32_w]
             rfl
            refine pure_ (i := 24) (N := some 73) (v := ?_) (a' := ?_) (bs 28 33292287) rfl rfl (any_of HT_.out (by kernel_rfl)) (fun _ _ _ h => h) (Or.inl ⟨by rfl, ?_⟩) ?_ ?_
            rotate_left
            ·intro w'
             go_simp
             with_reducible rfl
            rotate_left
            ·simp only [Act.put, sA, sB, sC, i64_w, i32_w]
             rfl
            refine pure_ (i := 25) (N := some 74) (v := ?_) (a' := ?_) (bs 28 66846719) rfl rfl (any_of HT_.out (by kernel_rfl)) (fun _ _ _ h => h) (Or.inl ⟨by rfl, ?_⟩) ?_ ?_
            rotate_left
            ·intro w'
             go_simp
             with_reducible rfl
            rotate_left
            ·simp only [Act.put, sA, sB, sC, i64_w, i32_w]
             rfl
            refine take_ (i := 18) (N := some 67) (v := ?_) (a' := ?_) (bs 28 67108863) rfl rfl (take_ofW HT_.out HW_.out (by kernel_rfl)) (fun _ _ _ h => h) (Or.inl ⟨by rfl, ?_⟩) hHeld ?_ ?_
            rotate_left
            ·rintro w' ⟨s0, s1, s2, s3, s4, s5⟩
             go_simp
             with_reducible rfl
            rotate_left
            ·simp only [Act.put, sA, sB, sC, i64_w, i32_w]
             rfl
            refine pure_ (i := 26) (N := some 75) (v := ?_) (a' := ?_) (bs 28 134217727) rfl rfl (any_of HT_.out (by kernel_rfl)) (fun _ _ _ h => h) (Or.inl ⟨by rfl, ?_⟩) ?_ ?_
            rotate_left
            ·intro w'
             go_simp
             with_reducible rfl
            rotate_left
            ·simp only [Act.put, sA, sB, sC, i64_w, i32_w]
             rfl
            refine pure_ (i := 27) (N := some 76) (v := ?_) (a' := ?_) (bs 28 268435455) rfl rfl (any_of HT_.out (by kernel_rfl)) (fun _ _ _ h => h) (Or.inl ⟨by rfl, ?_⟩) ?_ ?_
            rotate_left
            ·intro w'
             go_simp
             with_reducible rfl
            rotate_left
            ·simp only [Act.put, sA, sB, sC, i64_w, i32_w]
             rfl
            refine done_ (done_of HT_.out (by kernel_rfl)) ?_
            try go_wp2
            go_meet
            case rel => exact ⟨_, ((((rd_T24 l2 x10_2).f1) != (ji18))), (by first | rfl | (simp; done) | (simp only [← hji18] <;> (first | rfl | simp)) | (simp [*]; done)), H', ⟨by have := HJ3.out; have := HK2.out; first | omega | exact Nat.le_refl _⟩, ⟨by exact zk0 BK759⟩, ⟨by exact zb0 HB⟩⟩
           ·rw [if_neg c17] at H
            have c17b0 : (((rd_T24 l2 x10_2).f0) == (ji16)) = false := beq_eq_false_iff_ne.mpr c17
            have c17b1 : (((rd_T24 l2 x10_2).f0) != (ji16)) = true := bne_iff_ne.mpr c17
            have H' := Aside0.mk H
            clear H
            try go_wp2
            replace BK759 := zkd BK759
            replace HB := zbd HB
            have p760 : 0 ≤ (x10_2 : Int) := of_decide_eq_true (by first | (with_reducible assumption) | assumption)
            have q760 : x10_2 < (l2.length : Int) := of_decide_eq_true (by first | (with_reducible assumption) | assumption)
            obtain ⟨ad760, A760_2, c760_2, e760, hx760_0, hx760_1, hx760_2, hl760_2, hi760_2⟩ := at_T24 HR2.out x10_2 p760 q760
            have hw760_2 := hx760_2
            have hw760_1 := hx760_1
            have hw760_0 := hx760_0
            cases e760
            replace hx760_0 := (HB.out.cell (World.block_lt_of_cell? w _ hx760_0)).trans hx760_0
            replace hx760_1 := (HB.out.cell (World.block_lt_of_cell? w _ hx760_1)).trans hx760_1
            replace hx760_2 := (HB.out.cell (World.block_lt_of_cell? w _ hx760_2)).trans hx760_2
            have HR760_2 := Aside0.mk hi760_2
            have HC760_2 := Aside0.mk hl760_2
            clear hi760_2 hl760_2
            replace p760 := eq_true p760
            replace q760 := eq_true q760
            refine start_ (n := 28) (S := fun w' => w'.cell? (ad760.add ((x10_2).toNat * 3)) = some (.int .i64 ((rd_T24 l2 x10_2).f0)) ∧ w'.cell? ⟨(ad760.add ((x10_2).toNat * 3)).block, (ad760.add ((x10_2).toNat * 3)).off + 1, none⟩ = some (.int .i64 ((rd_T24 l2 x10_2).f1)) ∧ w'.cell? ⟨(ad760.add ((x10_2).toNat * 3)).block, (ad760.add ((x10_2).toNat * 3)).off + 2, none⟩ = some (.slice A760_2 ((rd_T24 l2 x10_2).f2).length c760_2)) (ds := []) (bs 28 0) (by kernel_rfl) rfl rfl ⟨((HB.out.cell (World.block_lt_of_cell? w _ hw760_0)).trans hw760_0), ((HB.out.cell (World.block_lt_of_cell? w _ hw760_1)).trans hw760_1), ((HB.out.cell (World.block_lt_of_cell? w _ hw760_2)).trans hw760_2)⟩ (fun hHeld => ?_); refine with_tabW imageeditorref11_Join.tab10 imageeditorref11_Join.bits10 (fun HT_ HW_ => ?_)
            generalize wr.drew = w20 at BK759 HB HR760_2 hx760_0 hx760_1 hx760_2 hHeld ⊢
            refine pure_ (i := 0) (N := some 49) (v := ?_) (a' := ?_) (bs 28 1) rfl rfl (any_of HT_.out (by kernel_rfl)) (fun _ _ _ h => h) (Or.inl ⟨by rfl, ?_⟩) ?_ ?_
            rotate_left
            ·intro w'
             go_simp
             with_reducible rfl
            rotate_left
            ·simp only [Act.put, sA, sB, sC, i64_w, i32_w]
             rfl
            refine pure_ (i := 1) (N := some 50) (v := ?_) (a' := ?_) (bs 28 3) rfl rfl (any_of HT_.out (by kernel_rfl)) (fun _ _ _ h => h) (Or.inl ⟨by rfl, ?_⟩) ?_ ?_
            rotate_left
            ·intro w'
             go_simp
             with_reducible rfl
            rotate_left
            ·simp only [Act.put, sA, sB, sC, i64_w, i32_w]
             rfl
            refine pure_ (i := 2) (N := some 51) (v := ?_) (a' := ?_) (bs 28 7) rfl rfl (any_of HT_.out (by kernel_rfl)) (fun _ _ _ h => h) (Or.inl ⟨by rfl, ?_⟩) ?_ ?_
            rotate_left
            ·intro w'
             go_simp
             with_reducible rfl
            rotate_left
            ·simp only [Act.put, sA, sB, sC, i64_w, i32_w]
             rfl
            refine pure_ (i := 3) (N := some 52) (v := ?_) (a' := ?_) (bs 28 15) rfl rfl (any_of HT_.out (by kernel_rfl)) (fun _ _ _ h => h) (Or.inl ⟨by rfl, ?_⟩) ?_ ?_
            rotate_left
            ·intro w'
             go_simp
             with_reducible rfl
            rotate_left
            ·simp only [Act.put, sA, sB, sC, i64_w, i32_w]
             rfl
            refine pure_ (i := 5) (N := some 54) (v := ?_) (a' := ?_) (bs 28 47) rfl rfl (any_of HT_.out (by kernel_rfl)) (fun _ _ _ h => h) (Or.inl ⟨by rfl, ?_⟩) ?_ ?_
            rotate_left
            ·intro w'
             go_simp
             with_reducible rfl
            rotate_left
            ·simp only [Act.put, sA, sB, sC, i64_w, i32_w]
             rfl
            refine pure_ (i := 6) (N := some 55) (v := ?_) (a' := ?_) (bs 28 111) rfl rfl (any_of HT_.out (by kernel_rfl)) (fun _ _ _ h => h) (Or.inl ⟨by rfl, ?_⟩) ?_ ?_
            rotate_left
            ·intro w'
             go_simp
             with_reducible rfl
            rotate_left
            ·simp only [Act.put, sA, sB, sC, i64_w, i32_w]
             rfl
            refine pure_ (i := 7) (N := some 56) (v := ?_) (a' := ?_) (bs 28 239) rfl rfl (any_of HT_.out (by kernel_rfl)) (fun _ _ _ h => h) (Or.inl ⟨by rfl, ?_⟩) ?_ ?_
            rotate_left
            ·intro w'
             go_simp
             with_reducible rfl
            rotate_left
            ·simp only [Act.put, sA, sB, sC, i64_w, i32_w]
             rfl
            refine pure_ (i := 8) (N := some 57) (v := ?_) (a' := ?_) (bs 28 495) rfl rfl (any_of HT_.out (by kernel_rfl)) (fun _ _ _ h => h) (Or.inl ⟨by rfl, ?_⟩) ?_ ?_
            rotate_left
            ·intro w'
             go_simp
             with_reducible rfl
            rotate_left
            ·simp only [Act.put, sA, sB, sC, i64_w, i32_w]
             rfl
            refine pure_ (i := 9) (N := some 58) (v := ?_) (a' := ?_) (bs 28 1007) rfl rfl (any_of HT_.out (by kernel_rfl)) (fun _ _ _ h => h) (Or.inl ⟨by rfl, ?_⟩) ?_ ?_
            rotate_left
            ·intro w'
             go_simp
             with_reducible rfl
            rotate_left
            ·simp only [Act.put, sA, sB, sC, i64_w, i32_w]
             rfl
            refine pure_ (i := 10) (N := some 59) (v := ?_) (a' := ?_) (bs 28 2031) rfl rfl (any_of HT_.out (by kernel_rfl)) (fun _ _ _ h => h) (Or.inl ⟨by rfl, ?_⟩) ?_ ?_
            rotate_left
            ·intro w'
             go_simp
             with_reducible rfl
            rotate_left
            ·simp only [Act.put, sA, sB, sC, i64_w, i32_w]
             rfl
            refine pure_ (i := 11) (N := some 60) (v := ?_) (a' := ?_) (bs 28 4079) rfl rfl (any_of HT_.out (by kernel_rfl)) (fun _ _ _ h => h) (Or.inl ⟨by rfl, ?_⟩) ?_ ?_
            rotate_left
            ·intro w'
             go_simp
             with_reducible rfl
            rotate_left
            ·simp only [Act.put, sA, sB, sC, i64_w, i32_w]
             rfl
            refine take_ (i := 4) (N := some 53) (v := ?_) (a' := ?_) (bs 28 4095) rfl rfl (take_ofW HT_.out HW_.out (by kernel_rfl)) (fun _ _ _ h => h) (Or.inl ⟨by rfl, ?_⟩) hHeld ?_ ?_
            rotate_left
            ·rintro w' ⟨s0, s1, s2⟩
             go_simp
             with_reducible rfl
            rotate_left
            ·simp only [Act.put, sA, sB, sC, i64_w, i32_w]
             rfl
            refine pure_ (i := 12) (N := some 61) (v := ?_) (a' := ?_) (bs 28 8191) rfl rfl (any_of HT_.out (by kernel_rfl)) (fun _ _ _ h => h) (Or.inl ⟨by rfl, ?_⟩) ?_ ?_
            rotate_left
            ·intro w'
             go_simp
             with_reducible rfl
            rotate_left
            ·simp only [Act.put, sA, sB, sC, i64_w, i32_w]
             rfl
            refine pure_ (i := 13) (N := some 62) (v := ?_) (a' := ?_) (bs 28 16383) rfl rfl (any_of HT_.out (by kernel_rfl)) (fun _ _ _ h => h) (Or.inl ⟨by rfl, ?_⟩) ?_ ?_
            rotate_left
            ·intro w'
             go_simp
             with_reducible rfl
            rotate_left
            ·simp only [Act.put, sA, sB, sC, i64_w, i32_w]
             rfl
            refine pure_ (i := 14) (N := some 63) (v := undef) (a' := ?_) (bs 28 32767) rfl rfl (any_of HT_.out (by kernel_rfl)) (fun _ _ _ h => h) (Or.inr ⟨by rfl, rfl⟩) ?_ ?_
            rotate_left
            ·simp only [Act.put, sA, sB, sC, i64_w, i32_w]
             rfl
            refine pure_ (i := 15) (N := some 64) (v := undef) (a' := ?_) (bs 28 65535) rfl rfl (any_of HT_.out (by kernel_rfl)) (fun _ _ _ h => h) (Or.inr ⟨by rfl, rfl⟩) ?_ ?_
            rotate_left
            ·simp only [Act.put, sA, sB, sC, i64_w, i32_w]
             rfl
            refine pure_ (i := 16) (N := some 65) (v := undef) (a' := ?_) (bs 28 131071) rfl rfl (any_of HT_.out (by kernel_rfl)) (fun _ _ _ h => h) (Or.inr ⟨by rfl, rfl⟩) ?_ ?_
            rotate_left
            ·simp only [Act.put, sA, sB, sC, i64_w, i32_w]
             rfl
            refine pure_ (i := 17) (N := some 66) (v := undef) (a' := ?_) (bs 28 262143) rfl rfl (any_of HT_.out (by kernel_rfl)) (fun _ _ _ h => h) (Or.inr ⟨by rfl, rfl⟩) ?_ ?_
            rotate_left
            ·simp only [Act.put, sA, sB, sC, i64_w, i32_w]
             rfl
            refine pure_ (i := 18) (N := some 67) (v := undef) (a' := ?_) (bs 28 524287) rfl rfl (any_of HT_.out (by kernel_rfl)) (fun _ _ _ h => h) (Or.inr ⟨by rfl, rfl⟩) ?_ ?_
            rotate_left
            ·simp only [Act.put, sA, sB, sC, i64_w, i32_w]
             rfl
            refine pure_ (i := 19) (N := some 68) (v := undef) (a' := ?_) (bs 28 1048575) rfl rfl (any_of HT_.out (by kernel_rfl)) (fun _ _ _ h => h) (Or.inr ⟨by rfl, rfl⟩) ?_ ?_
            rotate_left
            ·simp only [Act.put, sA, sB, sC, i64_w, i32_w]
             rfl
            refine pure_ (i := 20) (N := some 69) (v := undef) (a' := ?_) (bs 28 2097151) rfl rfl (any_of HT_.out (by kernel_rfl)) (fun _ _ _ h => h) (Or.inr ⟨by rfl, rfl⟩) ?_ ?_
            rotate_left
            ·simp only [Act.put, sA, sB, sC, i64_w, i32_w]
             rfl
            refine pure_ (i := 21) (N := some 70) (v := undef) (a' := ?_) (bs 28 4194303) rfl rfl (any_of HT_.out (by kernel_rfl)) (fun _ _ _ h => h) (Or.inr ⟨by rfl, rfl⟩) ?_ ?_
            rotate_left
            ·simp only [Act.put, sA, sB, sC, i64_w, i32_w]
             rfl
            refine pure_ (i := 22) (N := some 71) (v := undef) (a' := ?_) (bs 28 8388607) rfl rfl (any_of HT_.out (by kernel_rfl)) (fun _ _ _ h => h) (Or.inr ⟨by rfl, rfl⟩) ?_ ?_
            rotate_left
            ·simp only [Act.put, sA, sB, sC, i64_w, i32_w]
             rfl
            refine pure_ (i := 23) (N := some 72) (v := undef) (a' := ?_) (bs 28 16777215) rfl rfl (any_of HT_.out (by kernel_rfl)) (fun _ _ _ h => h) (Or.inr ⟨by rfl, rfl⟩) ?_ ?_
            rotate_left
            ·simp only [Act.put, sA, sB, sC, i64_w, i32_w]
             rfl
            refine pure_ (i := 24) (N := some 73) (v := undef) (a' := ?_) (bs 28 33554431) rfl rfl (any_of HT_.out (by kernel_rfl)) (fun _ _ _ h => h) (Or.inr ⟨by rfl, rfl⟩) ?_ ?_
            rotate_left
            ·simp only [Act.put, sA, sB, sC, i64_w, i32_w]
             rfl
            refine pure_ (i := 25) (N := some 74) (v := undef) (a' := ?_) (bs 28 67108863) rfl rfl (any_of HT_.out (by kernel_rfl)) (fun _ _ _ h => h) (Or.inr ⟨by rfl, rfl⟩) ?_ ?_
            rotate_left
            ·simp only [Act.put, sA, sB, sC, i64_w, i32_w]
             rfl
            refine pure_ (i := 26) (N := some 75) (v := undef) (a' := ?_) (bs 28 134217727) rfl rfl (any_of HT_.out (by kernel_rfl)) (fun _ _ _ h => h) (Or.inr ⟨by rfl, rfl⟩) ?_ ?_
            rotate_left
            ·simp only [Act.put, sA, sB, sC, i64_w, i32_w]
             rfl
            refine pure_ (i := 27) (N := some 76) (v := ?_) (a' := ?_) (bs 28 268435455) rfl rfl (any_of HT_.out (by kernel_rfl)) (fun _ _ _ h => h) (Or.inl ⟨by rfl, ?_⟩) ?_ ?_
            rotate_left
            ·intro w'
             go_simp
             with_reducible rfl
            rotate_left
            ·simp only [Act.put, sA, sB, sC, i64_w, i32_w]
             rfl
            refine done_ (done_of HT_.out (by kernel_rfl)) ?_
            try go_wp2
            go_meet
            case rel => exact ⟨_, (true), (by first | rfl | (simp; done) | (simp [*]; done)), H', ⟨by have := HJ3.out; have := HK2.out; first | omega | exact Nat.le_refl _⟩, ⟨by exact zk0 BK759⟩, ⟨by exact zb0 HB⟩⟩
         ·rw [if_neg c14] at H
          exact absurd H (by simp)
        case rest =>
         clear HC13
         try clear c1
         try clear c2
         try clear p2
         try clear c3
         try clear q3
         try clear c6
         try clear c6b0
         try clear p6
         try clear c7
         try clear c7b0
         try clear p7
         try clear q7
         try clear hx7
         try clear c8
         try clear c8b0
         try clear c9
         try clear c11
         try clear c11b0
         try clear c11b1
         try clear c12
         try clear c12b0
         try clear c14
         try clear c14b0
         try clear c15
         try clear c15b0
         try clear c15b1
         try clear c17
         try clear c17b0
         try clear c17b1
         try clear hcz10_0
         try clear hcz10_1
         try clear hcz10_2
         try clear hfz10_0
         try clear hfz10_1
         try clear hfz10_2
         try clear hx760_0
         try clear hx760_1
         try clear hx760_2
         try clear hx761_0
         try clear hx761_1
         try clear hx761_2
         try clear p2
         try clear p6
         try clear p760
         try clear p761
         try clear q3
         try clear q760
         try clear q761
         obtain ⟨kq, x76_12, rfl, HA, HJ12, BK759, HB⟩ := hcut
         cases kq with
         | zero => exact absurd HA.out (by simp [imageeditorref11_Join.j2])
         | succ kj12 =>
          have H := HA.out
          clear HA
          simp only [imageeditorref11_Join.j2] at H
          by_cases c21 : x76_12 = true
          ·subst c21
           have H1 : (some (0, 0, ([] : List (S26)), 15)) = some (r1, r2, r3, r4) := by rw [if_pos rfl] at H; exact H
           clear H
           have H := H1
           clear H1
           simp only [Option.some.injEq, Prod.mk.injEq] at H
           obtain ⟨rfl, rfl, rfl, rfl⟩ := H
           obtain ⟨hcz22_0, hcz22_1, hcz22_2, hfz22_0, hfz22_1, hfz22_2⟩ := zq3 BK759
           go_wp2
           refine bodyPost_ret (results_ct rfl _ _ gb759 24 #[.int .i64 0, .int .i64 0, .slice none 0 0] (0, 0) _ rfl (by exact zp BK759 rfl) Try.underlying24 rfl (by kernel_rfl)) rfl ?_
           exact ⟨_, by first | rfl | (simp [errW_none, errW_some] <;> rfl) | (simp [*, errW_none, errW_some] <;> rfl), by first | exact Kd.R_nil _ _ _ _ _ | exact Kd.N_nil _ _ _ _ _ | exact Kd.V_nil _ _ _ _ _ | exact Kd.Q_nil _ _ _ _ _ | exact Kd.S_nil _ _ _ _ _, by exact zbo HB GE759⟩
          ·replace c21 := Bool.eq_false_iff.mpr c21
           subst c21
           have H1 : (if 0 ≤ x10_2 then (if x10_2 < (l2.length : Int) then ((imageeditorref11_Check.f kj12 ((rd_T24 l2 x10_2).f0) ((rd_T24 l2 x10_2).f1) ((rd_T24 l2 x10_2).f2)).bind fun t763 => (if t763 = 0 then (imageeditorref11_Join.l0 kj12 a0 a1 l2 (wrap64 (Int.tdiv (wrap64 (a0 + 15)) 16)) (wrap64 (x10_2 + 1))) else (some (0, 0, ([] : List (S26)), t763)))) else (none)) else (none)) = some (r1, r2, r3, r4) := by rw [if_neg (show ¬ (false = true) by decide)] at H; exact H
           clear H
           have H := H1
           clear H1
           by_cases c23 : 0 ≤ x10_2
           ·rw [if_pos c23] at H
            have c23b0 : decide (0 ≤ x10_2) = true := decide_eq_true c23
            clear c23
            by_cases c24 : x10_2 < (l2.length : Int)
            ·rw [if_pos c24] at H
             have c24b0 : decide (x10_2 < (l2.length : Int)) = true := decide_eq_true c24
             clear c24
             replace H := Option.bind_eq_some_iff.mp H
             obtain ⟨t763, A250, H⟩ := H
             replace H : (if t763 = 0 then (imageeditorref11_Join.l0 kj12 a0 a1 l2 (wrap64 (Int.tdiv (wrap64 (a0 + 15)) 16)) (wrap64 (x10_2 + 1))) else (some (0, 0, ([] : List (S26)), t763))) = some (r1, r2, r3, r4) := H
             have A25 := Aside0.mk A250
             clear A250
             by_cases c26 : t763 = 0
             ·rw [if_pos c26] at H
              have c26b0 : (t763 == 0) = true := beq_iff_eq.mpr c26
              have c26b1 : (t763 != 0) = false := bne_eq_false_iff_eq.mpr c26
              clear c26
              have H' := Aside0.mk H
              clear H
              have p762 : 0 ≤ (x10_2 : Int) := of_decide_eq_true (by first | (with_reducible assumption) | assumption)
              have q762 : x10_2 < (l2.length : Int) := of_decide_eq_true (by first | (with_reducible assumption) | assumption)
              obtain ⟨ad762, A762_2, c762_2, e762, hx762_0, hx762_1, hx762_2, hl762_2, hi762_2⟩ := at_T24 HR2.out x10_2 p762 q762
              cases e762
              replace hx762_0 := (HB.out.cell (World.block_lt_of_cell? w _ hx762_0)).trans hx762_0
              replace hx762_1 := (HB.out.cell (World.block_lt_of_cell? w _ hx762_1)).trans hx762_1
              replace hx762_2 := (HB.out.cell (World.block_lt_of_cell? w _ hx762_2)).trans hx762_2
              have HR762_2 := Aside0.mk hi762_2
              have HC762_2 := Aside0.mk hl762_2
              clear hi762_2 hl762_2
              replace p762 := eq_true p762
              replace q762 := eq_true q762
              go_wp2_with (first | ((with_reducible refine gate_callee (f := 19) rfl ?_); refine goesL_ (some 82) rfl rfl Try.func19 (by kernel_rfl) rfl #[.agg #[.int .i64 ((rd_T24 l2 x10_2).f0), .int .i64 ((rd_T24 l2 x10_2).f1), .slice A762_2 ((rd_T24 l2 x10_2).f2).length c762_2]] rfl (by (try simp only [List.map_toArray, List.map_cons, List.map_nil]); first | done | rfl | (simp only [List.length_drop, List.length_take]; rfl)) ?_; (with_reducible refine (imageeditorref11_Check.calls kj12 ((rd_T24 l2 x10_2).f0) ((rd_T24 l2 x10_2).f1) _ _ ((rd_T24 l2 x10_2).f2) t763 _ ?side1 ?side2 A25.out).mono ?_); (case side1 => repeat (first | exact (Kd.C_below HR762_2.out HB.out) | (with_reducible refine Kd.C_alloc ?_ _) | (with_reducible refine Kd.C_drewN ?_ _) | (with_reducible refine Kd.C_drew ?_))); (case side2 => exact HC762_2.out); rintro e w27 ⟨rfl, hb⟩; refine ⟨_, rfl, ?_⟩; replace BK759 := zk BK759 hb; replace HB := zb HB hb; (try clear hb); (try clear hb2); (try clear hk); (try clear hi)))
              go_roundg kj12
              case measure => have := HJ3.out; have := HK2.out; have := HJ12.out; omega
              case rel => exact ⟨(wrap64 (x10_2 + 1)), (x760000_2), (x760001_2), (by first | rfl | (simp; done) | (simp [*]; done)), H', ⟨by have := HJ3.out; have := HK2.out; have := HJ12.out; omega⟩, ⟨by exact zk0 BK759⟩, ⟨by exact zb0 HB⟩⟩
             ·rw [if_neg c26] at H
              have c26b0 : (t763 == 0) = false := beq_eq_false_iff_ne.mpr c26
              have c26b1 : (t763 != 0) = true := bne_iff_ne.mpr c26
              simp only [Option.some.injEq, Prod.mk.injEq] at H
              obtain ⟨rfl, rfl, rfl, rfl⟩ := H
              have p762 : 0 ≤ (x10_2 : Int) := of_decide_eq_true (by first | (with_reducible assumption) | assumption)
              have q762 : x10_2 < (l2.length : Int) := of_decide_eq_true (by first | (with_reducible assumption) | assumption)
              obtain ⟨ad762, A762_2, c762_2, e762, hx762_0, hx762_1, hx762_2, hl762_2, hi762_2⟩ := at_T24 HR2.out x10_2 p762 q762
              cases e762
              replace hx762_0 := (HB.out.cell (World.block_lt_of_cell? w _ hx762_0)).trans hx762_0
              replace hx762_1 := (HB.out.cell (World.block_lt_of_cell? w _ hx762_1)).trans hx762_1
              replace hx762_2 := (HB.out.cell (World.block_lt_of_cell? w _ hx762_2)).trans hx762_2
              have HR762_2 := Aside0.mk hi762_2
              have HC762_2 := Aside0.mk hl762_2
              clear hi762_2 hl762_2
              replace p762 := eq_true p762
              replace q762 := eq_true q762
              go_wp2_with (first | ((with_reducible refine gate_callee (f := 19) rfl ?_); refine goesL_ (some 82) rfl rfl Try.func19 (by kernel_rfl) rfl #[.agg #[.int .i64 ((rd_T24 l2 x10_2).f0), .int .i64 ((rd_T24 l2 x10_2).f1), .slice A762_2 ((rd_T24 l2 x10_2).f2).length c762_2]] rfl (by (try simp only [List.map_toArray, List.map_cons, List.map_nil]); first | done | rfl | (simp only [List.length_drop, List.length_take]; rfl)) ?_; (with_reducible refine (imageeditorref11_Check.calls kj12 ((rd_T24 l2 x10_2).f0) ((rd_T24 l2 x10_2).f1) _ _ ((rd_T24 l2 x10_2).f2) t763 _ ?side1 ?side2 A25.out).mono ?_); (case side1 => repeat (first | exact (Kd.C_below HR762_2.out HB.out) | (with_reducible refine Kd.C_alloc ?_ _) | (with_reducible refine Kd.C_drewN ?_ _) | (with_reducible refine Kd.C_drew ?_))); (case side2 => exact HC762_2.out); rintro e w28 ⟨rfl, hb⟩; refine ⟨_, rfl, ?_⟩; replace BK759 := zk BK759 hb; replace HB := zb HB hb; (try clear hb); (try clear hb2); (try clear hk); (try clear hi); obtain ⟨hcz29_0, hcz29_1, hcz29_2, hfz29_0, hfz29_1, hfz29_2⟩ := zq3 BK759))
              refine bodyPost_ret (results_ct rfl _ _ gb759 24 #[.int .i64 0, .int .i64 0, .slice none 0 0] (0, 0) _ rfl (by exact zp BK759 rfl) Try.underlying24 rfl (by kernel_rfl)) rfl ?_
              exact ⟨_, by first | rfl | (simp [errW_none, errW_some] <;> rfl) | (simp [*, errW_none, errW_some] <;> rfl), by first | exact Kd.R_nil _ _ _ _ _ | exact Kd.N_nil _ _ _ _ _ | exact Kd.V_nil _ _ _ _ _ | exact Kd.Q_nil _ _ _ _ _ | exact Kd.S_nil _ _ _ _ _, by exact zbo HB GE759⟩
            ·rw [if_neg c24] at H
             exact absurd H (by simp)
           ·rw [if_neg c23] at H
            exact absurd H (by simp)
       ·rw [if_neg c12] at H
        have c12b0 : decide (x10_2 < (l2.length : Int)) = false := decide_eq_false c12
        clear c12
        have H' := Aside0.mk H
        clear H
        go_wp2_with (first | ((with_reducible refine gate_dst (N := 12) rfl ?_); (try (refine gate_guard (by rfl) ?_; dsimp only)); refine box_event ?hg (N := 12) ?hd (cs := #[.int .i64 0, .int .i64 0, .slice none 0 0]) (t := 24) ?hr ?_; (case hd => rfl); (case hg => rfl); (case hr => first | (go_simp; done) | (go_simp; rfl)); intro gb764 hg w30 hbox hb; have GW764 := zg HB hg; have GE764 := zg HB hg; have NB759_764 := zn BK759 hg; have NB764_759 := zn' BK759 hg; have n0_ := Aside0.mk (hbox); replace BK759 := zk BK759 hb; replace HB := zb HB hb; have BK764 := n0_; clear n0_; clear hb hbox hg; have hnb31 := NB764_759.out; have hnc31 := NB759_764.out; obtain ⟨hcz32_0, hcz32_1, hcz32_2, hfz32_0, hfz32_1, hfz32_2⟩ := zq3 BK764))
        (try simp only [Act.put, sA, sB, sC])
        go_loopg [13] k2 (fun kq v13 w' => ∃ (x13_3 : Int) (x765002_3 : List (S26)) (u765002 : Value), v13 = .int .i64 x13_3 ∧ Aside0 (imageeditorref11_Join.l1 kq a0 a1 l2 (wrap64 (Int.tdiv (wrap64 (a0 + 15)) 16)) x13_3 a0 a1 x765002_3 = some (r1, r2, r3, r4)) ∧ Aside0 (kq ≤ k2) ∧ Aside0 (Kd.R k26 26 w' w.heap.size (fun _ => True) u765002 x765002_3) ∧ Aside0 (w'.heap[gb759]? = some (.cells #[.int .i64 x760000_2, .int .i64 x760001_2, (.slice none 0 0)] 24 (0, 0))) ∧ Aside0 (w'.heap[gb764]? = some (.cells #[.int .i64 a0, .int .i64 a1, u765002] 24 (0, 0))) ∧ Aside0 (Below w.heap.size w w'))
        case atStart => exact ⟨(0), (([] : List (S26))), (.slice none 0 0), (by first | rfl | (simp; done) | (simp [*]; done)), H', ⟨Nat.le_refl _⟩, ⟨by first | exact Kd.R_nil _ _ _ _ _ | exact Kd.N_nil _ _ _ _ _ | exact Kd.V_nil _ _ _ _ _ | exact Kd.Q_nil _ _ _ _ _ | exact Kd.S_nil _ _ _ _ _⟩, ⟨by exact zf BK759 NB759_764⟩, ⟨by exact zp BK764 rfl⟩, ⟨by exact zbo HB GE764⟩⟩
        case round =>
         clear H'
         try clear c1
         try clear c2
         try clear p2
         try clear c3
         try clear q3
         try clear c6
         try clear c6b0
         try clear p6
         try clear c7
         try clear c7b0
         try clear p7
         try clear q7
         try clear hx7
         try clear c8
         try clear c8b0
         try clear c9
         try clear c11
         try clear c11b0
         try clear c11b1
         try clear c12
         try clear c12b0
         try clear c14
         try clear c14b0
         try clear c15
         try clear c15b0
         try clear c15b1
         try clear c17
         try clear c17b0
         try clear c17b1
         try clear c19
         try clear c21
         try clear c23
         try clear c23b0
         try clear c24
         try clear c24b0
         try clear c26
         try clear c26b0
         try clear c26b1
         try clear c31
         try clear hcz10_0
         try clear hcz10_1
         try clear hcz10_2
         try clear hcz22_0
         try clear hcz22_1
         try clear hcz22_2
         try clear hcz29_0
         try clear hcz29_1
         try clear hcz29_2
         try clear hcz32_0
         try clear hcz32_1
         try clear hcz32_2
         try clear hfz10_0
         try clear hfz10_1
         try clear hfz10_2
         try clear hfz22_0
         try clear hfz22_1
         try clear hfz22_2
         try clear hfz29_0
         try clear hfz29_1
         try clear hfz29_2
         try clear hfz32_0
         try clear hfz32_1
         try clear hfz32_2
         try clear hx760_0
         try clear hx760_1
         try clear hx760_2
         try clear hx761_0
         try clear hx761_1
         try clear hx761_2
         try clear hx762_0
         try clear hx762_1
         try clear hx762_2
         try clear p2
         try clear p6
         try clear p7
         try clear p760
         try clear p761
         try clear p762
         try clear q3
         try clear q7
         try clear q760
         try clear q761
         try clear q762
         obtain ⟨x13_3, x765002_3, u765002, rfl, HA, HK3, HO_765002, BK759, BK764, HB⟩ := hrel
         cases gk with
         | zero => exact absurd HA.out (by simp [imageeditorref11_Join.l1])
         | succ k3 =>
          have H := HA.out
          clear HA
          simp only [imageeditorref11_Join.l1] at H
          by_cases c33 : x13_3 < a1
          ·rw [if_pos c33] at H
           have c33b0 : decide (x13_3 < a1) = true := decide_eq_true c33
           clear c33
           have H' := Aside0.mk H
           clear H
           go_wp2
           go_loopg [14] k3 (fun kq v14 w' => ∃ (x14_4 : Int) (x765002_4 : List (S26)) (u765002 : Value), v14 = .int .i64 x14_4 ∧ Aside0 (imageeditorref11_Join.l2 kq a0 a1 l2 (wrap64 (Int.tdiv (wrap64 (a0 + 15)) 16)) x13_3 x14_4 a0 a1 x765002_4 = some (r1, r2, r3, r4)) ∧ Aside0 (kq ≤ k3) ∧ Aside0 (Kd.R k26 26 w' w.heap.size (fun _ => True) u765002 x765002_4) ∧ Aside0 (w'.heap[gb759]? = some (.cells #[.int .i64 x760000_2, .int .i64 x760001_2, (.slice none 0 0)] 24 (0, 0))) ∧ Aside0 (w'.heap[gb764]? = some (.cells #[.int .i64 a0, .int .i64 a1, u765002] 24 (0, 0))) ∧ Aside0 (Below w.heap.size w w'))
           case atStart => exact ⟨(0), (x765002_3), (u765002), (by first | rfl | (simp; done) | (simp [*]; done)), H', ⟨Nat.le_refl _⟩, ⟨by exact zr0 HO_765002⟩, ⟨by exact zk0 BK759⟩, ⟨by exact zk0 BK764⟩, ⟨by exact zb0 HB⟩⟩
           case round =>
            clear H'
            try clear c1
            try clear c2
            try clear p2
            try clear c3
            try clear q3
            try clear c6
            try clear c6b0
            try clear p6
            try clear c7
            try clear c7b0
            try clear p7
            try clear q7
            try clear hx7
            try clear c8
            try clear c8b0
            try clear c9
            try clear c11
            try clear c11b0
            try clear c11b1
            try clear c12
            try clear c12b0
            try clear c14
            try clear c14b0
            try clear c15
            try clear c15b0
            try clear c15b1
            try clear c17
            try clear c17b0
            try clear c17b1
            try clear c19
            try clear c21
            try clear c23
            try clear c23b0
            try clear c24
            try clear c24b0
            try clear c26
            try clear c26b0
            try clear c26b1
            try clear c31
            try clear c33
            try clear c33b0
            try clear hcz10_0
            try clear hcz10_1
            try clear hcz10_2
            try clear hcz22_0
            try clear hcz22_1
            try clear hcz22_2
            try clear hcz29_0
            try clear hcz29_1
            try clear hcz29_2
            try clear hcz32_0
            try clear hcz32_1
            try clear hcz32_2
            try clear hfz10_0
            try clear hfz10_1
            try clear hfz10_2
            try clear hfz22_0
            try clear hfz22_1
            try clear hfz22_2
            try clear hfz29_0
            try clear hfz29_1
            try clear hfz29_2
            try clear hfz32_0
            try clear hfz32_1
            try clear hfz32_2
            try clear hx760_0
            try clear hx760_1
            try clear hx760_2
            try clear hx761_0
            try clear hx761_1
            try clear hx761_2
            try clear hx762_0
            try clear hx762_1
            try clear hx762_2
            try clear p2
            try clear p6
            try clear p7
            try clear p760
            try clear p761
            try clear p762
            try clear q3
            try clear q7
            try clear q760
            try clear q761
            try clear q762
            obtain ⟨x14_4, x765002_4, u765002, rfl, HA, HK4, HO_765002, BK759, BK764, HB⟩ := hrel
            cases gk with
            | zero => exact absurd HA.out (by simp [imageeditorref11_Join.l2])
            | succ k4 =>
             have H := HA.out
             clear HA
             simp only [imageeditorref11_Join.l2] at H
             by_cases c34 : x14_4 < a0
             ·rw [if_pos c34] at H
              have c34b0 : decide (x14_4 < a0) = true := decide_eq_true c34
              clear c34
              obtain ⟨ji35, hji35⟩ : ∃ j_ : Int, (wrap64 ((wrap64 ((wrap64 (Int.tdiv x13_3 16)) * (wrap64 (Int.tdiv (wrap64 (a0 + 15)) 16)))) + (wrap64 (Int.tdiv x14_4 16)))) = j_ := ⟨_, rfl⟩
              replace H : (if 0 ≤ (ji35) then (if (ji35) < (l2.length : Int) then ((imageeditorref11_Pick.f ((rd_T24 l2 (ji35)).f0) ((rd_T24 l2 (ji35)).f1) ((rd_T24 l2 (ji35)).f2) (Int.tmod x14_4 16) (Int.tmod x13_3 16)).bind fun bt766 => (if x765002_4.length < 4398046511104 then (imageeditorref11_Join.l2 k4 a0 a1 l2 (wrap64 (Int.tdiv (wrap64 (a0 + 15)) 16)) x13_3 (wrap64 (x14_4 + 1)) a0 a1 (x765002_4 ++ [(⟨bt766.1, bt766.2.1, bt766.2.2.1, bt766.2.2.2⟩ : S26)])) else (none))) else (none)) else (none)) = some (r1, r2, r3, r4) := by first | (rw [hji35] at H; exact H) | (simp only [hji35] at H ⊢; exact H)
              have hji35w : (IntKind.i64.wrap ((wrap64 ((wrap64 (Int.tdiv x13_3 16)) * (wrap64 (Int.tdiv (wrap64 (a0 + 15)) 16)))) + (wrap64 (Int.tdiv x14_4 16)))) = ji35 := (i64_w _).trans hji35
              by_cases c36 : 0 ≤ (ji35)
              ·rw [if_pos c36] at H
               have c36b0 : decide (0 ≤ (ji35)) = true := decide_eq_true c36
               clear c36
               by_cases c37 : (ji35) < (l2.length : Int)
               ·rw [if_pos c37] at H
                have c37b0 : decide ((ji35) < (l2.length : Int)) = true := decide_eq_true c37
                clear c37
                replace H := Option.bind_eq_some_iff.mp H
                obtain ⟨⟨t766, t767, t768, t769⟩, A380, H⟩ := H
                replace H : (if x765002_4.length < 4398046511104 then (imageeditorref11_Join.l2 k4 a0 a1 l2 (wrap64 (Int.tdiv (wrap64 (a0 + 15)) 16)) x13_3 (wrap64 (x14_4 + 1)) a0 a1 (x765002_4 ++ [(⟨t766, t767, t768, t769⟩ : S26)])) else (none)) = some (r1, r2, r3, r4) := H
                have A38 := Aside0.mk A380
                clear A380
                by_cases c39 : x765002_4.length < 4398046511104
                ·rw [if_pos c39] at H
                 have LMc39 := Aside0.mk c39
                 clear c39
                 obtain ⟨y770, hy770⟩ : ∃ y_ : List (S26), y_ = (x765002_4 ++ [(⟨t766, t767, t768, t769⟩ : S26)]) := ⟨_, rfl⟩
                 replace H : (imageeditorref11_Join.l2 k4 a0 a1 l2 (wrap64 (Int.tdiv (wrap64 (a0 + 15)) 16)) x13_3 (wrap64 (x14_4 + 1)) a0 a1 y770) = some (r1, r2, r3, r4) := by first | (rw [hy770]; with_reducible exact H) | (have H2_ := (Option.bind_some _ _).symm.trans H; rw [hy770]; with_reducible exact H2_) | (have H2_ := (Option.bind_some _ _).symm.trans H; with_reducible exact H2_) | with_reducible exact H | (rw [hy770]; exact H) | exact H
                 have Ny770 := Aside0.mk hy770
                 clear hy770
                 have H' := Aside0.mk H
                 clear H
                 try go_wp2
                 replace HO_765002 := zrd HO_765002
                 replace BK759 := zkd BK759
                 replace BK764 := zkd BK764
                 replace HB := zbd HB
                 have p765 : 0 ≤ ((ji35) : Int) := of_decide_eq_true (by first | (with_reducible assumption) | assumption)
                 have q765 : (ji35) < (l2.length : Int) := of_decide_eq_true (by first | (with_reducible assumption) | assumption)
                 obtain ⟨ad765, A765_2, c765_2, e765, hx765_0, hx765_1, hx765_2, hl765_2, hi765_2⟩ := at_T24 HR2.out (ji35) p765 q765
                 have hw765_2 := hx765_2
                 have hw765_1 := hx765_1
                 have hw765_0 := hx765_0
                 cases e765
                 replace hx765_0 := (HB.out.cell (World.block_lt_of_cell? w _ hx765_0)).trans hx765_0
                 replace hx765_1 := (HB.out.cell (World.block_lt_of_cell? w _ hx765_1)).trans hx765_1
                 replace hx765_2 := (HB.out.cell (World.block_lt_of_cell? w _ hx765_2)).trans hx765_2
                 have HR765_2 := Aside0.mk hi765_2
                 have HC765_2 := Aside0.mk hl765_2
                 clear hi765_2 hl765_2
                 replace p765 := eq_true p765
                 replace q765 := eq_true q765
                 refine start_ (n := 21) (S := fun w' => w'.cell? ⟨gb764, 0, none⟩ = some (.int .i64 a0) ∧ w'.cell? ⟨gb764, 1, none⟩ = some (.int .i64 a1) ∧ w'.cell? ⟨gb764, 2, none⟩ = some (u765002) ∧ w'.cell? (ad765.add (((ji35)).toNat * 3)) = some (.int .i64 ((rd_T24 l2 (ji35)).f0)) ∧ w'.cell? ⟨(ad765.add (((ji35)).toNat * 3)).block, (ad765.add (((ji35)).toNat * 3)).off + 1, none⟩ = some (.int .i64 ((rd_T24 l2 (ji35)).f1)) ∧ w'.cell? ⟨(ad765.add (((ji35)).toNat * 3)).block, (ad765.add (((ji35)).toNat * 3)).off + 2, none⟩ = some (.slice A765_2 ((rd_T24 l2 (ji35)).f2).length c765_2)) (ds := [20]) (bs 21 0) (by kernel_rfl) rfl rfl ⟨(blk_cell BK764.out 0).trans rfl, (blk_cell BK764.out 1).trans rfl, (blk_cell BK764.out 2).trans rfl, ((HB.out.cell (World.block_lt_of_cell? w _ hw765_0)).trans hw765_0), ((HB.out.cell (World.block_lt_of_cell? w _ hw765_1)).trans hw765_1), ((HB.out.cell (World.block_lt_of_cell? w _ hw765_2)).trans hw765_2)⟩ (fun hHeld => ?_); refine with_tabW imageeditorref11_Join.tab22 imageeditorref11_Join.bits22 (fun HT_ HW_ => ?_)
                 generalize wr.drew = w40 at HO_765002 BK759 BK764 HB HR765_2 hx765_0 hx765_1 hx765_2 hHeld ⊢
                 refine pure_ (i := 0) (N := some 100) (v := ?_) (a' := ?_) (bs 21 1) rfl rfl (any_of HT_.out (by kernel_rfl)) (fun _ _ _ h => h) (Or.inl ⟨by rfl, ?_⟩) ?_ ?_
                 rotate_left
                 ·intro w'
                  go_simp
                  with_reducible rfl
                 rotate_left
                 ·simp only [Act.put, sA, sB, sC, i64_w, i32_w]
                  rfl
                 refine pure_ (i := 2) (N := some 102) (v := ?_) (a' := ?_) (bs 21 5) rfl rfl (any_of HT_.out (by kernel_rfl)) (fun _ _ _ h => h) (Or.inl ⟨by rfl, ?_⟩) ?_ ?_
                 rotate_left
                 ·intro w'
                  go_simp
                  with_reducible rfl
                 rotate_left
                 ·simp only [Act.put, sA, sB, sC, i64_w, i32_w]
                  rfl
                 refine pure_ (i := 3) (N := some 103) (v := ?_) (a' := ?_) (bs 21 13) rfl rfl (any_of HT_.out (by kernel_rfl)) (fun _ _ _ h => h) (Or.inl ⟨by rfl, ?_⟩) ?_ ?_
                 rotate_left
                 ·intro w'
                  go_simp
                  with_reducible rfl
                 rotate_left
                 ·simp only [Act.put, sA, sB, sC, i64_w, i32_w]
                  rfl
                 refine pure_ (i := 4) (N := some 104) (v := ?_) (a' := ?_) (bs 21 29) rfl rfl (any_of HT_.out (by kernel_rfl)) (fun _ _ _ h => h) (Or.inl ⟨by rfl, ?_⟩) ?_ ?_
                 rotate_left
                 ·intro w'
                  go_simp
                  with_reducible rfl
                 rotate_left
                 ·simp only [Act.put, sA, sB, sC, i64_w, i32_w]
                  rfl
                 refine pure_ (i := 5) (N := some 105) (v := ?_) (a' := ?_) (bs 21 61) rfl rfl (any_of HT_.out (by kernel_rfl)) (fun _ _ _ h => h) (Or.inl ⟨by rfl, ?_⟩) ?_ ?_
                 rotate_left
                 ·intro w'
                  go_simp
                  with_reducible rfl
                 rotate_left
                 ·simp only [Act.put, sA, sB, sC, i64_w, i32_w]
                  rfl
                 refine pure_ (i := 6) (N := some 106) (v := ?_) (a' := ?_) (bs 21 125) rfl rfl (any_of HT_.out (by kernel_rfl)) (fun _ _ _ h => h) (Or.inl ⟨by rfl, ?_⟩) ?_ ?_
                 rotate_left
                 ·intro w'
                  go_simp
                  with_reducible rfl
                 rotate_left
                 ·simp only [Act.put, sA, sB, sC, i64_w, i32_w]
                  rfl
                 refine pure_ (i := 7) (N := some 107) (v := ?_) (a' := ?_) (bs 21 253) rfl rfl (any_of HT_.out (by kernel_rfl)) (fun _ _ _ h => h) (Or.inl ⟨by rfl, ?_⟩) ?_ ?_
                 rotate_left
                 ·intro w'
                  go_simp
                  with_reducible rfl
                 rotate_left
                 ·simp only [Act.put, sA, sB, sC, i64_w, i32_w]
                  rfl
                 refine pure_ (i := 8) (N := some 108) (v := ?_) (a' := ?_) (bs 21 509) rfl rfl (any_of HT_.out (by kernel_rfl)) (fun _ _ _ h => h) (Or.inl ⟨by rfl, ?_⟩) ?_ ?_
                 rotate_left
                 ·intro w'
                  go_simp
                  with_reducible rfl
                 rotate_left
                 ·simp only [Act.put, sA, sB, sC, i64_w, i32_w]
                  rfl
                 refine pure_ (i := 9) (N := some 109) (v := ?_) (a' := ?_) (bs 21 1021) rfl rfl (any_of HT_.out (by kernel_rfl)) (fun _ _ _ h => h) (Or.inl ⟨by rfl, ?_⟩) ?_ ?_
                 rotate_left
                 ·intro w'
                  go_simp
                  with_reducible rfl
                 rotate_left
                 ·simp only [Act.put, sA, sB, sC, i64_w, i32_w]
                  rfl
                 refine pure_ (i := 10) (N := some 110) (v := ?_) (a' := ?_) (bs 21 2045) rfl rfl (any_of HT_.out (by kernel_rfl)) (fun _ _ _ h => h) (Or.inl ⟨by rfl, ?_⟩) ?_ ?_
                 rotate_left
                 ·intro w'
                  go_simp
                  with_reducible rfl
                 rotate_left
                 ·simp only [Act.put, sA, sB, sC, i64_w, i32_w]
                  rfl
                 refine pure_ (i := 12) (N := some 112) (v := ?_) (a' := ?_) (bs 21 6141) rfl rfl (any_of HT_.out (by kernel_rfl)) (fun _ _ _ h => h) (Or.inl ⟨by rfl, ?_⟩) ?_ ?_
                 rotate_left
                 ·intro w'
                  go_simp
                  with_reducible rfl
                 rotate_left
                 ·simp only [Act.put, sA, sB, sC, i64_w, i32_w]
                  rfl
                 refine pure_ (i := 13) (N := some 113) (v := ?_) (a' := ?_) (bs 21 14333) rfl rfl (any_of HT_.out (by kernel_rfl)) (fun _ _ _ h => h) (Or.inl ⟨by rfl, ?_⟩) ?_ ?_
                 rotate_left
                 ·intro w'
                  go_simp
                  with_reducible rfl
                 rotate_left
                 ·simp only [Act.put, sA, sB, sC, i64_w, i32_w]
                  rfl
                 refine pure_ (i := 14) (N := some 114) (v := ?_) (a' := ?_) (bs 21 30717) rfl rfl (any_of HT_.out (by kernel_rfl)) (fun _ _ _ h => h) (Or.inl ⟨by rfl, ?_⟩) ?_ ?_
                 rotate_left
                 ·intro w'
                  go_simp
                  with_reducible rfl
                 rotate_left
                 ·simp only [Act.put, sA, sB, sC, i64_w, i32_w]
                  rfl
                 refine pure_ (i := 15) (N := some 115) (v := ?_) (a' := ?_) (bs 21 63485) rfl rfl (any_of HT_.out (by kernel_rfl)) (fun _ _ _ h => h) (Or.inl ⟨by rfl, ?_⟩) ?_ ?_
                 rotate_left
                 ·intro w'
                  go_simp
                  with_reducible rfl
                 rotate_left
                 ·simp only [Act.put, sA, sB, sC, i64_w, i32_w]
                  rfl
                 refine take_ (i := 1) (N := some 101) (v := ?_) (a' := ?_) (bs 21 63487) rfl rfl (take_ofW HT_.out HW_.out (by kernel_rfl)) (fun _ _ _ h => h) (Or.inl ⟨by rfl, ?_⟩) hHeld ?_ ?_
                 rotate_left
                 ·rintro w' ⟨s0, s1, s2, s3, s4, s5⟩
                  go_simp
                  with_reducible rfl
                 rotate_left
                 ·simp only [Act.put, sA, sB, sC, i64_w, i32_w]
                  rfl
                 refine take_ (i := 11) (N := some 111) (v := ?_) (a' := ?_) (bs 21 65535) rfl rfl (take_ofW HT_.out HW_.out (by kernel_rfl)) (fun _ _ _ h => h) (Or.inl ⟨by rfl, ?_⟩) hHeld ?_ ?_
                 rotate_left
                 ·rintro w' ⟨s0, s1, s2, s3, s4, s5⟩
                  go_simp
                  with_reducible rfl
                 rotate_left
                 ·simp only [Act.put, sA, sB, sC, i64_w, i32_w]
                  rfl
                 refine one_ (i := 16) (N := some 116) (bs 21 131071) rfl rfl (one_of HT_.out (by kernel_rfl)) (by decide) (fun K hK => ?_)
                 refine goes_ Try.func44 (by kernel_rfl) rfl #[.agg #[.int .i64 ((rd_T24 l2 (ji35)).f0), .int .i64 ((rd_T24 l2 (ji35)).f1), .slice A765_2 ((rd_T24 l2 (ji35)).f2).length c765_2], .int .i64 (Int.tmod x14_4 16), .int .i64 (Int.tmod x13_3 16)] (by rfl) rfl rfl (by (try simp only [List.map_toArray, List.map_cons, List.map_nil]); first | done | (simp only [hji35]; rfl) | rfl | (simp only [List.length_drop, List.length_take]; rfl)) ?_
                 with_reducible refine (imageeditorref11_Pick.calls ((rd_T24 l2 (ji35)).f0) ((rd_T24 l2 (ji35)).f1) _ _ ((rd_T24 l2 (ji35)).f2) (Int.tmod x14_4 16) (Int.tmod x13_3 16) t766 t767 t768 t769 _ ?side1 ?side2 A38.out).mono ?_
                 (case side1 => repeat (first | exact (Kd.C_below HR765_2.out HB.out) | (with_reducible refine Kd.C_alloc ?_ _) | (with_reducible refine Kd.C_drewN ?_ _) | (with_reducible refine Kd.C_drew ?_)))
                 (case side2 => exact HC765_2.out)
                 rintro e w41 ⟨rfl, hb⟩
                 refine ⟨_, rfl, ?_⟩
                 replace HO_765002 := zr HO_765002 hb
                 replace BK759 := zk BK759 hb
                 replace BK764 := zk BK764 hb
                 replace HB := zb HB hb
                 (try clear hb)
                 (try clear hb2)
                 (try clear hk)
                 (try clear hi)
                 refine hK.out _ _ ⟨(blk_cell BK764.out 0).trans rfl, (blk_cell BK764.out 1).trans rfl, (blk_cell BK764.out 2).trans rfl, ((HB.out.cell (World.block_lt_of_cell? w _ hw765_0)).trans hw765_0), ((HB.out.cell (World.block_lt_of_cell? w _ hw765_1)).trans hw765_1), ((HB.out.cell (World.block_lt_of_cell? w _ hw765_2)).trans hw765_2)⟩ (fun hHeld => ?_)
                 clear hK K
                 refine norm_ (a' := ?_) ?_ ?_
                 rotate_left
                 ·show Act.put _ (some 116) _ = _
                  simp only [Act.put, sA, sB, sC, i64_w, i32_w]
                  rfl
                 refine one_ (i := 17) (N := some 117) (bs 21 262143) rfl rfl (one_of HT_.out (by kernel_rfl)) (by decide) (fun K hK => ?_)
                 refine value_ (w1 := ?_) (v := ?_) (by rfl) rfl ?_ ?_
                 rotate_left 2
                 ·go_simp
                  constructor
                  ·rfl
                  ·rfl
                 refine hK.out _ _ ⟨(blk_cell (blk_alloc BK764.out _) 0).trans rfl, (blk_cell (blk_alloc BK764.out _) 1).trans rfl, (blk_cell (blk_alloc BK764.out _) 2).trans rfl, (World.cell?_alloc_lt _ _ _ (World.block_lt_of_cell? _ _ (((HB.out.cell (World.block_lt_of_cell? w _ hw765_0)).trans hw765_0)))).trans (((HB.out.cell (World.block_lt_of_cell? w _ hw765_0)).trans hw765_0)), (World.cell?_alloc_lt _ _ _ (World.block_lt_of_cell? _ _ (((HB.out.cell (World.block_lt_of_cell? w _ hw765_1)).trans hw765_1)))).trans (((HB.out.cell (World.block_lt_of_cell? w _ hw765_1)).trans hw765_1)), (World.cell?_alloc_lt _ _ _ (World.block_lt_of_cell? _ _ (((HB.out.cell (World.block_lt_of_cell? w _ hw765_2)).trans hw765_2)))).trans (((HB.out.cell (World.block_lt_of_cell? w _ hw765_2)).trans hw765_2))⟩ (fun hHeld => ?_)
                 clear hK K
                 refine norm_ (a' := ?_) ?_ ?_
                 rotate_left
                 ·show Act.put _ (some 117) _ = _
                  simp only [Act.put, sA, sB, sC, i64_w, i32_w]
                  rfl
                 refine one_ (i := 18) (N := some 118) (bs 21 524287) rfl rfl (one_of HT_.out (by kernel_rfl)) (by decide) (fun K hK => ?_)
                 refine Kd.R_append_step k26 (w0 := w) w.heap.size (by rfl) (.tmp 101) (.tmp 117) 22 26 (.agg #[(.int .i64 0), (.int .i64 0), (.int .i64 0), (.int .i64 0)]) 32 rfl Try.underlying22 info26 rfl (by decide) (by omega) u765002 x765002_4 (⟨t766, t767, t768, t769⟩ : S26) [.int .i64 t766, .int .i64 t767, .int .i64 t768, .int .i64 t769] (fun _ => True) (fun _ => False) rfl rfl ?aP (fun _ hk => hk.elim) ?aF ?aO ?aB ?aS ?aL ?_
                 (case aP => exact k26_mkM _ _ _ (⟨t766, t767, t768, t769⟩ : S26))
                 (case aB => exact (by exact zb0 HB))
                 (case aF => exact (fun _ _ => trivial))
                 (case aO => exact (by exact zr0 HO_765002))
                 (case aS => exact (below_size (by exact zb0 HB)))
                 (case aL => have := LMc39.out; omega)
                 intro v771 w42 ho hb hg hat
                 rw [← Ny770.out] at ho
                 have n0_ := Aside0.mk (blk_grown (zk0 BK759) hg (Kd.R_ne HO_765002.out BK759.out (by decide)))
                 have n1_ := Aside0.mk (blk_grown (zk0 BK764) hg (Kd.R_ne HO_765002.out BK764.out (by decide)))
                 have n2_ := Aside0.mk (hb)
                 have n3_ := Aside0.mk (ho)
                 clear BK759
                 clear BK764
                 clear HB
                 clear HO_765002
                 have BK759 := n0_
                 have BK764 := n1_
                 have HB := n2_
                 have HO772 := n3_
                 clear n0_ n1_ n2_ n3_
                 clear ho hb hg hat
                 obtain ⟨Ao43, co43, eo43⟩ := Kd.R_slice HO772.out
                 (first | subst eo43 | (injection eo43 with f1_ f2_ f3_; have f4_ := f1_.symm; have f5_ := f3_.symm; clear f1_ f2_ f3_; subst f4_; subst f5_))
                 refine hK.out _ _ ⟨(blk_cell BK764.out 0).trans rfl, (blk_cell BK764.out 1).trans rfl, (blk_cell BK764.out 2).trans rfl, ((HB.out.cell (World.block_lt_of_cell? w _ hw765_0)).trans hw765_0), ((HB.out.cell (World.block_lt_of_cell? w _ hw765_1)).trans hw765_1), ((HB.out.cell (World.block_lt_of_cell? w _ hw765_2)).trans hw765_2)⟩ (fun hHeld => ?_)
                 clear hK K
                 refine norm_ (a' := ?_) ?_ ?_
                 rotate_left
                 ·show Act.put _ (some 118) _ = _
                  simp only [Act.put, sA, sB, sC, i64_w, i32_w]
                  rfl
                 refine pure_ (i := 19) (N := some 119) (v := ?_) (a' := ?_) (bs 21 1048575) rfl rfl (any_of HT_.out (by kernel_rfl)) (fun _ _ _ h => h) (Or.inl ⟨by rfl, ?_⟩) ?_ ?_
                 rotate_left
                 ·intro w'
                  go_simp
                  with_reducible rfl
                 rotate_left
                 ·simp only [Act.put, sA, sB, sC, i64_w, i32_w]
                  rfl
                 refine last_ (i := 20) (N := none) (bs 21 2097151) rfl rfl (one_of HT_.out (by kernel_rfl)) (by decide) (fun K hK => ?_)
                 have hs44 : w42.cell? ⟨gb764, 2, none⟩ = some (u765002) := (blk_cell BK764.out 2).trans rfl
                 have hfs44 := blk_frozen BK764.out 2
                 have hns44_0 := NB759_764.out
                 have hms44_0 := NB764_759.out
                 refine skip_ (w1 := ?_) (by rfl) rfl ?_ ?_
                 rotate_left
                 ·go_simp
                  rfl
                 refine hK.out _ _ ?_
                 clear hK K
                 refine done_ (done_of HT_.out (by kernel_rfl)) ?_
                 try go_wp2
                 first | go_roundg k4 | ((try subst hji35); go_roundg k4)
                 case measure => have := HJ3.out; have := HK2.out; have := HK3.out; have := HK4.out; omega
                 case rel => first | (exact ⟨(wrap64 (x14_4 + 1)), (y770), (.slice Ao43 y770.length co43), (by first | rfl | (simp; done) | (simp [*]; done)), H', ⟨by have := HJ3.out; have := HK2.out; have := HK3.out; have := HK4.out; omega⟩, ⟨by exact zro HO772 BK764 (by decide)⟩, ⟨by exact zf BK759 NB759_764⟩, ⟨by exact zp BK764 rfl⟩, ⟨by exact zbo HB GE764⟩⟩) | (exact ⟨(wrap64 (x14_4 + 1)), (y770), (.slice Ao43 y770.length co43), (by first | rfl | (simp; done) | (simp [*]; done)), H', ⟨by have := HJ3.out; have := HK2.out; have := HK3.out; have := HK4.out; omega⟩, ⟨by exact zro HO772 BK764 (by decide)⟩, ⟨by exact zf BK759 NB759_764⟩, ⟨by exact zp BK764 rfl⟩, ⟨by exact zbo HB GE764⟩⟩)
                ·rw [if_neg c39] at H
                 exact absurd H (by simp)
               ·rw [if_neg c37] at H
                exact absurd H (by simp)
              ·rw [if_neg c36] at H
               exact absurd H (by simp)
             ·rw [if_neg c34] at H
              have c34b0 : decide (x14_4 < a0) = false := decide_eq_false c34
              clear c34
              have H' := Aside0.mk H
              clear H
              go_wp2
              go_roundg k4
              case measure => have := HJ3.out; have := HK2.out; have := HK3.out; have := HK4.out; omega
              case rel => exact ⟨(wrap64 (x13_3 + 1)), (x765002_4), (u765002), (by first | rfl | (simp; done) | (simp [*]; done)), H', ⟨by have := HJ3.out; have := HK2.out; have := HK3.out; have := HK4.out; omega⟩, ⟨by exact zr0 HO_765002⟩, ⟨by exact zk0 BK759⟩, ⟨by exact zk0 BK764⟩, ⟨by exact zb0 HB⟩⟩
          ·rw [if_neg c33] at H
           have c33b0 : decide (x13_3 < a1) = false := decide_eq_false c33
           clear c33
           simp only [Option.some.injEq, Prod.mk.injEq] at H
           obtain ⟨rfl, rfl, rfl, rfl⟩ := H
           have hnb45 := NB764_759.out
           have hnc45 := NB759_764.out
           obtain ⟨hcz46_0, hcz46_1, hcz46_2, hfz46_0, hfz46_1, hfz46_2⟩ := zq3 BK764
           obtain ⟨hcz47_0, hcz47_1, hcz47_2, hfz47_0, hfz47_1, hfz47_2⟩ := zq3 BK759
           obtain ⟨Ao48, co48, eo48⟩ := Kd.R_slice HO_765002.out
           subst eo48
           go_wp2
           refine bodyPost_ret (results_ct rfl _ _ gb759 24 #[.int .i64 a0, .int .i64 a1, .slice Ao48 x765002_3.length co48] (0, 0) _ rfl (by exact zp BK759 rfl) Try.underlying24 rfl (by kernel_rfl)) rfl ?_
           exact ⟨_, by first | rfl | (simp [errW_none, errW_some] <;> rfl) | (simp [*, errW_none, errW_some] <;> rfl), by exact zro HO_765002 BK759 (by decide), by exact zbo HB GE759⟩
    ·rw [if_neg c11] at H
     have c11b0 : ((l2.length : Int) == (wrap64 ((wrap64 (Int.tdiv (wrap64 (a0 + 15)) 16)) * (wrap64 (Int.tdiv (wrap64 (a1 + 15)) 16))))) = false := beq_eq_false_iff_ne.mpr c11
     have c11b1 : ((l2.length : Int) != (wrap64 ((wrap64 (Int.tdiv (wrap64 (a0 + 15)) 16)) * (wrap64 (Int.tdiv (wrap64 (a1 + 15)) 16))))) = true := bne_iff_ne.mpr c11
     simp only [Option.some.injEq, Prod.mk.injEq] at H
     obtain ⟨rfl, rfl, rfl, rfl⟩ := H
     obtain ⟨hcz49_0, hcz49_1, hcz49_2, hfz49_0, hfz49_1, hfz49_2⟩ := zq3 BK759
     go_wp2
     refine bodyPost_ret (results_ct rfl _ _ gb759 24 #[.int .i64 0, .int .i64 0, .slice none 0 0] (0, 0) _ rfl (by exact zp BK759 rfl) Try.underlying24 rfl (by kernel_rfl)) rfl ?_
     exact ⟨_, by first | rfl | (simp [errW_none, errW_some] <;> rfl) | (simp [*, errW_none, errW_some] <;> rfl), by first | exact Kd.R_nil _ _ _ _ _ | exact Kd.N_nil _ _ _ _ _ | exact Kd.V_nil _ _ _ _ _ | exact Kd.Q_nil _ _ _ _ _ | exact Kd.S_nil _ _ _ _ _, by exact zbo HB GE759⟩

/-! ### imageeditorlaw11_RasterJoins: function 9 -/
def imageeditorlaw11_RasterJoins.f (k : Nat) (a0 : Int) (a1 : Int) (l2 : List (S24)) : Option (Bool) := (raster_Join.f k a0 a1 l2).bind fun bt773 => ((imageeditorref11_Join.f k a0 a1 l2).bind fun bt780 => ((imageeditorlaw11_awake.f k).bind fun t787 => (if t787 = true then (if bt773.2.2.2 = bt780.2.2.2 then ((imageeditorlaw11_same.f k bt773.1 bt773.2.1 bt773.2.2.1 bt780.1 bt780.2.1 bt780.2.2.1).bind fun t788 => (some t788)) else (some false)) else (some false))))
theorem imageeditorlaw11_RasterJoins.mono : ∀ a0 a1 a2 k, LeO (imageeditorlaw11_RasterJoins.f k a0 a1 a2) (imageeditorlaw11_RasterJoins.f (k + 1) a0 a1 a2) := by
 intro a0 a1 a2 k
 unfold imageeditorlaw11_RasterJoins.f
 repeat' first
   | (with_reducible exact imageeditorlaw11_awake.mono _)
   | (with_reducible exact imageeditorlaw11_same.mono _ _ _ _ _ _ _)
   | (with_reducible exact imageeditorref11_Join.mono _ _ _ _)
   | (with_reducible exact raster_Join.mono _ _ _ _)
   | (with_reducible exact LeO.refl _)
   | (with_reducible exact LeO.none _)
   | (with_reducible refine LeO.ite ?_ ?_)
   | (with_reducible refine LeO.bind ?_ (fun _ => ?_))
   | exact imageeditorlaw11_awake.mono _
   | exact imageeditorlaw11_same.mono _ _ _ _ _ _ _
   | exact imageeditorref11_Join.mono _ _ _ _
   | exact raster_Join.mono _ _ _ _
   | exact LeO.none _
   | refine LeO.ite ?_ ?_
   | refine LeO.bind ?_ (fun _ => ?_)
set_option maxHeartbeats 8000000 in
set_option maxRecDepth 100000 in
theorem imageeditorlaw11_RasterJoins.callsT (k : Nat) (a0 : Int) (a1 : Int) (A2 : Option Addr) (c2 : Nat) (l2 : List (S24)) (r : Bool) (w : World) (hr2 : Kd.C k24 w A2 l2.length l2) (hc2 : l2.length ≤ c2) (hT : r = true) (h : imageeditorlaw11_RasterJoins.f k a0 a1 l2 = some r) :
  Calls Try.prog 9 #[.int .i64 a0, .int .i64 a1, .slice A2 l2.length c2] w fun e w' => e = .returned (.bool r) ∧ Below w.heap.size w w' := by
 have hu24 := Try.underlying24
 have HT := Aside0.mk hT
 clear hT
 have HR2 := Aside0.mk hr2
 have HC2 := Aside0.mk hc2
 clear hr2 hc2
 have HB := Aside0.mk (Below.refl w.heap.size w)
 have H : ((raster_Join.f k a0 a1 l2).bind fun bt773 => ((imageeditorref11_Join.f k a0 a1 l2).bind fun bt780 => ((imageeditorlaw11_awake.f k).bind fun t787 => (if t787 = true then (if bt773.2.2.2 = bt780.2.2.2 then ((imageeditorlaw11_same.f k bt773.1 bt773.2.1 bt773.2.2.1 bt780.1 bt780.2.1 bt780.2.2.1).bind fun t788 => (some t788)) else (some false)) else (some false))))) = some r := h
 clear h
 replace H := Option.bind_eq_some_iff.mp H
 obtain ⟨⟨t773, t774, t775, t778⟩, A40, H⟩ := H
 replace H : ((imageeditorref11_Join.f k a0 a1 l2).bind fun bt780 => ((imageeditorlaw11_awake.f k).bind fun t787 => (if t787 = true then (if t778 = bt780.2.2.2 then ((imageeditorlaw11_same.f k t773 t774 t775 bt780.1 bt780.2.1 bt780.2.2.1).bind fun t788 => (some t788)) else (some false)) else (some false)))) = some r := H
 have A4 := Aside0.mk A40
 clear A40
 replace H := Option.bind_eq_some_iff.mp H
 obtain ⟨⟨t780, t781, t782, t785⟩, A50, H⟩ := H
 replace H : ((imageeditorlaw11_awake.f k).bind fun t787 => (if t787 = true then (if t778 = t785 then ((imageeditorlaw11_same.f k t773 t774 t775 t780 t781 t782).bind fun t788 => (some t788)) else (some false)) else (some false))) = some r := H
 have A5 := Aside0.mk A50
 clear A50
 replace H := Option.bind_eq_some_iff.mp H
 obtain ⟨t787, A60, H⟩ := H
 replace H : (if t787 = true then (if t778 = t785 then ((imageeditorlaw11_same.f k t773 t774 t775 t780 t781 t782).bind fun t788 => (some t788)) else (some false)) else (some false)) = some r := H
 have A6 := Aside0.mk A60
 clear A60
 by_cases c7 : t787 = true
 ·subst c7
  have H1 : (if t778 = t785 then ((imageeditorlaw11_same.f k t773 t774 t775 t780 t781 t782).bind fun t788 => (some t788)) else (some false)) = some r := by rw [if_pos rfl] at H; exact H
  clear H
  have H := H1
  clear H1
  by_cases c8 : t778 = t785
  ·rw [if_pos c8] at H
   have c8b0 : (t778 == t785) = true := beq_iff_eq.mpr c8
   have c8b1 : (t778 != t785) = false := bne_eq_false_iff_eq.mpr c8
   clear c8
   replace H := Option.bind_eq_some_iff.mp H
   obtain ⟨t788, A90, H⟩ := H
   replace H : (some t788) = some r := H
   have A9 := Aside0.mk A90
   clear A90
   as_aux_lemma =>
    obtain rfl := Option.some.inj H
    go_enter Try.func9, Try.ntmps9
    go_wp2_with (first | ((with_reducible refine gate_callee (f := 35) rfl ?_); refine goesL_ (some 15) rfl rfl Try.func35 (by kernel_rfl) rfl #[.int .i64 a0, .int .i64 a1, .slice A2 l2.length c2] rfl (by (try simp only [List.map_toArray, List.map_cons, List.map_nil]); first | done | rfl | (simp only [List.length_drop, List.length_take]; rfl)) ?_; (with_reducible refine (raster_Join.calls k a0 a1 _ _ l2 t773 t774 t775 t778 _ ?side1 ?side2 A4.out).mono ?_); (case side1 => repeat (first | exact HR2.out | (with_reducible refine Kd.C_alloc ?_ _) | (with_reducible refine Kd.C_drewN ?_ _) | (with_reducible refine Kd.C_drew ?_))); (case side2 => exact HC2.out); rintro e w10 ⟨v776, rfl, ho0, hb⟩; refine ⟨_, rfl, ?_⟩; have HO777 := zl HB ho0; replace HB := zb HB hb; (try clear hb); (try clear hb2); (try clear hk); (try clear hi); (try clear ho0)) | ((with_reducible refine gate_dst (N := 7) rfl ?_); refine box_event ?hg (N := 7) ?hd (cs := #[.int .i64 0, .int .i64 0, .slice none 0 0]) (t := 24) ?hr ?_; (case hd => rfl); (case hg => rfl); (case hr => first | (go_simp; done) | (go_simp; rfl)); intro gb779 hg w11 hbox hb; have GW779 := zg HB hg; have GE779 := zg HB hg; have n0_ := Aside0.mk (hbox); replace HO777 := zr HO777 hb; replace HB := zb HB hb; have BK779 := n0_; clear n0_; clear hb hbox hg; obtain ⟨hcz12_0, hcz12_1, hcz12_2, hfz12_0, hfz12_1, hfz12_2⟩ := zq3 BK779; obtain ⟨Ao13, co13, eo13⟩ := Kd.R_slice HO777.out; subst eo13) | ((with_reducible refine gate_callee (f := 36) rfl ?_); refine goesL_ (some 22) rfl rfl Try.func36 (by kernel_rfl) rfl #[.int .i64 a0, .int .i64 a1, .slice A2 l2.length c2] rfl (by (try simp only [List.map_toArray, List.map_cons, List.map_nil]); first | done | rfl | (simp only [List.length_drop, List.length_take]; rfl)) ?_; (with_reducible refine (imageeditorref11_Join.calls k a0 a1 _ _ l2 t780 t781 t782 t785 _ ?side1 ?side2 A5.out).mono ?_); (case side1 => exact Kd.C_below HR2.out (by exact zbo HB GE779)); (case side2 => exact HC2.out); rintro e w14 ⟨v783, rfl, ho0, hb⟩; refine ⟨_, rfl, ?_⟩; have n0_ := Aside0.mk (Kd.R_below (by exact zro HO777 BK779 (by decide)) hb); have n1_ := Aside0.mk (Kd.R_lower ho0 (below_size (by exact zbo HB GE779))); have n2_ := Aside0.mk (blk_below (g := gb779) (o := .cells #[.int .i64 t773, .int .i64 t774, .slice Ao13 t775.length co13] 24 (0, 0)) (by exact zp BK779 rfl) hb); have n3_ := Aside0.mk (below_step (by exact zbo HB GE779) hb); clear HO777; clear BK779; clear HB; have HO777 := n0_; have HO784 := n1_; have BK779 := n2_; have HB := n3_; clear n0_ n1_ n2_ n3_; (try clear hb); (try clear hb2); (try clear hk); (try clear hi); (try clear ho0)) | ((with_reducible refine gate_dst (N := 9) rfl ?_); refine box_event ?hg (N := 9) ?hd (cs := #[.int .i64 0, .int .i64 0, .slice none 0 0]) (t := 24) ?hr ?_; (case hd => rfl); (case hg => rfl); (case hr => first | (go_simp; done) | (go_simp; rfl)); intro gb786 hg w15 hbox hb; have GW786 := zg HB hg; have GE786 := zg HB hg; have NB779_786 := zn BK779 hg; have NB786_779 := zn' BK779 hg; have n0_ := Aside0.mk (hbox); replace HO777 := zr HO777 hb; replace HO784 := zr HO784 hb; replace BK779 := zk BK779 hb; replace HB := zb HB hb; have BK786 := n0_; clear n0_; clear hb hbox hg; have hnb16 := NB786_779.out; have hnc16 := NB779_786.out; obtain ⟨hcz17_0, hcz17_1, hcz17_2, hfz17_0, hfz17_1, hfz17_2⟩ := zq3 BK786; obtain ⟨Ao18, co18, eo18⟩ := Kd.R_slice HO784.out; subst eo18) | ((with_reducible refine gate_callee (f := 17) rfl ?_); refine goesL_ (some 25) rfl rfl Try.func17 (by kernel_rfl) rfl #[] rfl (by (try simp only [List.map_toArray, List.map_cons, List.map_nil]); first | done | rfl | (simp only [List.length_drop, List.length_take]; rfl)) ?_; (with_reducible refine (imageeditorlaw11_awake.calls k  true _ A6.out).mono ?_); rintro e w19 ⟨rfl, hb⟩; refine ⟨_, rfl, ?_⟩; have n0_ := Aside0.mk (Kd.R_below (by exact zro HO777 BK786 (by decide)) hb); have n1_ := Aside0.mk (Kd.R_below (by exact zro HO784 BK786 (by decide)) hb); have n2_ := Aside0.mk (blk_below (g := gb786) (o := .cells #[.int .i64 t780, .int .i64 t781, .slice Ao18 t782.length co18] 24 (0, 0)) (by exact zp BK786 rfl) hb); have n3_ := Aside0.mk (below_step (by exact zbo HB GE786) hb); replace BK779 := zfk BK779 NB779_786 hb; clear HO777; clear HO784; clear BK786; clear HB; have HO777 := n0_; have HO784 := n1_; have BK786 := n2_; have HB := n3_; clear n0_ n1_ n2_ n3_; (try clear hb); (try clear hb2); (try clear hk); (try clear hi); obtain ⟨hcz20_0, hcz20_1, hcz20_2, hfz20_0, hfz20_1, hfz20_2⟩ := zq3 BK779; obtain ⟨hcz21_0, hcz21_1, hcz21_2, hfz21_0, hfz21_1, hfz21_2⟩ := zq3 BK786; (try clear BK779); (try clear BK786)) | (go_at_call 20; (with_reducible refine (imageeditorlaw11_same.calls k t773 t774 _ _ t775 t780 t781 _ _ t782 t788 _ ?side1 ?side2 ?side3 ?side4 A9.out).mono ?_); (case side1 => repeat (first | exact (Kd.R_reads' HO777.out).2.2 | (with_reducible refine Kd.C_alloc ?_ _) | (with_reducible refine Kd.C_drewN ?_ _) | (with_reducible refine Kd.C_drew ?_))); (case side2 => exact (Kd.R_reads' HO777.out).2.1); (case side3 => repeat (first | exact (Kd.R_reads' HO784.out).2.2 | (with_reducible refine Kd.C_alloc ?_ _) | (with_reducible refine Kd.C_drewN ?_ _) | (with_reducible refine Kd.C_drew ?_))); (case side4 => exact (Kd.R_reads' HO784.out).2.1); rintro e w22 ⟨rfl, hb⟩; replace HO777 := zr HO777 hb; replace HO784 := zr HO784 hb; replace HB := zb HB hb; (try clear hb); (try clear hb2); (try clear hk); (try clear hi)))
    go_ret
    exact ⟨by first | rfl | (simp [errW_none, errW_some] <;> rfl) | (simp [*, errW_none, errW_some] <;> rfl), by exact zb0 HB⟩
  ·rw [if_neg c8] at H
   have c8b0 : (t778 == t785) = false := beq_eq_false_iff_ne.mpr c8
   have c8b1 : (t778 != t785) = true := bne_iff_ne.mpr c8
   as_aux_lemma =>
    exact absurd HT.out (by rw [← Option.some.inj H]; decide)
 ·replace c7 := Bool.eq_false_iff.mpr c7
  subst c7
  have H1 : (some false) = some r := by rw [if_neg (show ¬ (false = true) by decide)] at H; exact H
  clear H
  have H := H1
  clear H1
  as_aux_lemma =>
   exact absurd HT.out (by rw [← Option.some.inj H]; decide)

end Go.Proofs.Ytjepbimgddgijaa.G
