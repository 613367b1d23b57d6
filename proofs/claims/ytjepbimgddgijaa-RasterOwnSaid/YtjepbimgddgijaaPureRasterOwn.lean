/- RasterOwn in plain words: results are new memory. For every image and rectangle that memory holds. -/
import Derived.Test.YtjepbimgddgijaaQCrop
import Derived.Test.YtjepbimgddgijaaQPut
import Derived.Test.YtjepbimgddgijaaQFlip
import Derived.Test.YtjepbimgddgijaaG5
import Derived.Test.YtjepbimgddgijaaG6
import Derived.Test.YtjepbimgddgijaaG8
import Derived.Test.YtjepbimgddgijaaG10
import Derived.Test.YtjepbimgddgijaaG24
namespace Go.Proofs.Ytjepbimgddgijaa.Pure
open Go.RowKit Go.Proofs.YtjepbimgddgijaaW.PrintWords Go.Proofs.YtjepbimgddgijaaW.PrintLast Go.Proofs.YtjepbimgddgijaaW.PrintMore Go.Proofs.Ytjepbimgddgijaa.G
set_option linter.unusedVariables false
set_option linter.unusedSimpArgs false
theorem fill_small' {w h : Int} (hw : w ≤ 256) (hh : h ≤ 256) (g : Int → Int → S26) : ((fillL w.toNat (h.toNat * w.toNat) g).length : Int) ≤ 65536 := by
  rw [fillL_length]
  have := Nat.mul_le_mul (show h.toNat ≤ 256 by omega) (show w.toNat ≤ 256 by omega)
  omega
theorem flipR_small (W H : Int) (l : List S26) (kind : Int) : ((flipR W H l kind).2.2.1.length : Int) ≤ 65536 := by
  unfold flipR
  by_cases hc : chk W H l = 0
  case neg => rw [if_neg hc]; simp
  rw [if_pos hc]
  have hs := (sidesOk_iff W H).1 (chk_ok hc).1
  by_cases k1 : kind = 1
  · rw [if_pos k1]; exact fill_small' (w := W) (h := H) (by omega) (by omega) _
  rw [if_neg k1]
  by_cases k2 : kind = 2
  · rw [if_pos k2]; exact fill_small' (w := W) (h := H) (by omega) (by omega) _
  rw [if_neg k2]
  by_cases k3 : kind = 3
  · rw [if_pos k3]; exact fill_small' (w := H) (h := W) (by omega) (by omega) _
  rw [if_neg k3]
  by_cases k4 : kind = 4
  · rw [if_pos k4]; exact fill_small' (w := W) (h := H) (by omega) (by omega) _
  rw [if_neg k4]
  simp

theorem sameLoopB (V : List S26) (hV : (V.length : Int) ≤ 9223372036854775806) (W H W' H' : Int) : ∀ (n i : Nat), i + n = V.length → Ev (fun k => imageeditorlaw11_same.l0 k (V.length : Int) (i : Int) W H V W' H' V) true := by
  intro n
  induction n with
  | zero => intro i hi; exact .step (f := fun _ => some true) (fun k => by rw [imageeditorlaw11_same.l0, if_neg (by omega)]) (.now _)
  | succ n ih =>
    intro i hi
    refine .step (fun k => by rw [imageeditorlaw11_same.l0, if_pos (by omega), if_pos (by omega), if_pos (by omega), if_pos (by omega), pix_same, if_neg (by simp), w64 (by omega) (by omega)]) ?_
    exact ih (i + 1) (by omega)
theorem same_big (V : List S26) (hV : (V.length : Int) ≤ 9223372036854775806) (W H : Int) : Ev (fun k => imageeditorlaw11_same.f k W H V W H V) true := by
  unfold imageeditorlaw11_same.f
  simp only [if_true]
  refine .step (fun k => by rw [imageeditorlaw11_same.j0, if_neg (by simp)]) ?_
  exact sameLoopB V hV W H W H V.length 0 (by omega)
section
variable {r : Bool} {x5 : List S26} {W H : Int} {l : List S26} {x y w h a0 a1 b0 b1 c0 c1 d0 d1 : Int} {D : List S26}
theorem own2 (hE : Ev (fun k => (raster_Crop.f k W H x5 x y w h).bind fun bt528 => ((imageeditorlaw11_same.f k W H x5 W H l).bind fun t535 => (if t535 = true then ((imageeditorlaw11_same.f k d0 d1 D bt528.1 bt528.2.1 bt528.2.2.1).bind fun t536 => (some t536)) else (some false)))) r) :
    ∀ (n i N : Nat) (C : List S26), i + n = N → C.length = N → N ≤ 65536 → Ev (fun k => imageeditorlaw11_RasterOwn.l2 k x5 (N : Int) (i : Int) W H l x y w h c0 c1 C d0 d1 D) r := by
  intro n
  induction n with
  | zero => intro i N C hi hC hN; exact .step (fun k => by rw [imageeditorlaw11_RasterOwn.l2, if_neg (by omega)]) hE
  | succ n ih =>
    intro i N C hi hC hN
    refine .step (fun k => by rw [imageeditorlaw11_RasterOwn.l2, if_pos (by omega), if_pos (by omega), if_pos (by omega), w64 (by omega) (by omega)]) ?_
    exact ih (i + 1) N (C.set (i : Int).toNat ⟨1, 2, 3, 4⟩) (by omega) (by rw [List.length_set]; exact hC) hN
theorem own1 {C : List S26} (hE : Ev (fun k => imageeditorlaw11_RasterOwn.l2 k x5 (C.length : Int) 0 W H l x y w h c0 c1 C d0 d1 D) r) :
    ∀ (n i N : Nat) (B : List S26), i + n = N → B.length = N → N ≤ 65536 → Ev (fun k => imageeditorlaw11_RasterOwn.l1 k x5 (N : Int) (i : Int) W H l x y w h b0 b1 B c0 c1 C d0 d1 D) r := by
  intro n
  induction n with
  | zero => intro i N B hi hB hN; exact .step (fun k => by rw [imageeditorlaw11_RasterOwn.l1, if_neg (by omega)]) hE
  | succ n ih =>
    intro i N B hi hB hN
    refine .step (fun k => by rw [imageeditorlaw11_RasterOwn.l1, if_pos (by omega), if_pos (by omega), if_pos (by omega), w64 (by omega) (by omega)]) ?_
    exact ih (i + 1) N (B.set (i : Int).toNat ⟨1, 2, 3, 4⟩) (by omega) (by rw [List.length_set]; exact hB) hN
theorem own0 {B C : List S26} (hE : Ev (fun k => imageeditorlaw11_RasterOwn.l1 k x5 (B.length : Int) 0 W H l x y w h b0 b1 B c0 c1 C d0 d1 D) r) :
    ∀ (n i N : Nat) (A : List S26), i + n = N → A.length = N → N ≤ 65536 → Ev (fun k => imageeditorlaw11_RasterOwn.l0 k x5 (N : Int) (i : Int) W H l x y w h a0 a1 A b0 b1 B c0 c1 C d0 d1 D) r := by
  intro n
  induction n with
  | zero => intro i N A hi hA hN; exact .step (fun k => by rw [imageeditorlaw11_RasterOwn.l0, if_neg (by omega)]) hE
  | succ n ih =>
    intro i N A hi hA hN
    refine .step (fun k => by rw [imageeditorlaw11_RasterOwn.l0, if_pos (by omega), if_pos (by omega), if_pos (by omega), w64 (by omega) (by omega)]) ?_
    exact ih (i + 1) N (A.set (i : Int).toNat ⟨1, 2, 3, 4⟩) (by omega) (by rw [List.length_set]; exact hA) hN
end
theorem RasterOwn : ∀ (a0_0 : Int) (a0_1 : Int) (a0_2 : List S26) (a1_0 : Int) (a1_1 : Int) (a1_2 : Int) (a1_3 : Int), ((Lit.int .i64 a0_0).wf = true ∧ (Lit.int .i64 a0_1).wf = true ∧ (a0_2.length ≤ maxLen ∧ ∀ x ∈ a0_2, (Lit.int .i64 x.f0).wf = true ∧ (Lit.int .i64 x.f1).wf = true ∧ (Lit.int .i64 x.f2).wf = true ∧ (Lit.int .i64 x.f3).wf = true)) → ((Lit.int .i64 a1_0).wf = true ∧ (Lit.int .i64 a1_1).wf = true ∧ (Lit.int .i64 a1_2).wf = true ∧ (Lit.int .i64 a1_3).wf = true) → a0_2.length * 32 ≤ 140737488351232 → ∃ k, imageeditorlaw11_RasterOwn.f k a0_0 a0_1 a0_2 a1_0 a1_1 a1_2 a1_3 = some true := by
  intro W H l x y w h _ _ hsz
  unfold imageeditorlaw11_RasterOwn.f
  refine Ev.rounds (awake_eq.bind ?_)
  simp only [if_true, if_pos (show ([] : List S26).length + l.length < 4398046511104 by rw [List.length_nil]; omega)]
  have hc := crop_eq W H l x y w h
  have s1 := cropR_small W H l x y w h
  have s2 := putR_small W H l W H l 0 0
  have s3 := flipR_small W H l 2
  have he : ([] : List S26) ++ l = l := List.nil_append l
  refine hc.bind ((put_eq W H l W H l 0 0).bind ((flip_eq W H l 2).bind (hc.bind ?_)))
  simp only [he]
  generalize cropR W H l x y w h = A at *
  generalize putR W H l W H l 0 0 = B at *
  generalize flipR W H l 2 = C at *
  refine own0 (own1 (own2 ?_ _ 0 _ _ (Nat.zero_add _) rfl (by omega)) _ 0 _ _ (Nat.zero_add _) rfl (by omega)) _ 0 _ _ (Nat.zero_add _) rfl (by omega)
  refine hc.bind ((same_big l (by omega) W H).bind ?_)
  simp only [if_true]
  exact (same_eq _ s1 _ _).bind (.now _)
end Go.Proofs.Ytjepbimgddgijaa.Pure
