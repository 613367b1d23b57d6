/- Draw in plain words: each pixel of the result is told by its taps and by what the image gives near them. -/
import Derived.Test.YtnfbabmceddciaaPSums
import Derived.Test.YtnfbabmceddciaaPMeshAtQ
import Derived.Test.YtnfbabmceddciaaPIm
import Derived.Test.YtnfbabmceddciaaG9
import Derived.Test.YtnfbabmceddciaaG12
namespace Go.Proofs.Ytnfbabmceddciaa.Pure
open Go.RowKit Go.Proofs.YtnfbabmceddciaaW.PrintWords Go.Proofs.YtnfbabmceddciaaW.PrintLast Go.Proofs.YtnfbabmceddciaaW.PrintMore Go.Proofs.Ytnfbabmceddciaa.G
set_option linter.unusedVariables false
set_option linter.unusedSimpArgs false

def rowS (nr : Int → S48) (fx v : Int) : List Int → Int → Sm → Sm
  | [], _, s => s
  | w :: ws, i, s => rowS nr fx v ws (i + 1) (addV s (nr (wrap64 (fx + i))) (wrap64 (w * v)))
def colS (nr : Int → Int → S48) (fx : Int) (A : List Int) (fy : Int) : List Int → Int → Sm → Sm
  | [], _, s => s
  | v :: vs, j, s => colS nr fx A fy vs (j + 1) (rowS (fun a => nr a (wrap64 (fy + j))) fx v A 0 s)
theorem rd_get' (l : List Int) (i : Nat) (h : i < l.length) : rd l (i : Int) = l[i] := by
  simp [rd, List.getD_eq_getElem?_getD, List.getElem?_eq_getElem h]
section
variable (kd W H : Int) (P : List S48) (ax ay X Y BW BH c r st : Int) (D : List S28) (ox oy ow oh : Int)
/-- The image gives this pixel near a place. -/
def nearIs (a b : Int) (p : S48) : Prop := warp_Draw_1.f a b X Y BW BH ax ay W H P = some (p.f0, p.f1, p.f2, p.f3)
theorem draw_l3 (nr : Int → Int → S48) (y x fx : Int) (A : List Int) (fy j v : Int) (B : List Int) (acc : List S48) (R : Int × Int × List S48 × Int) (hA : A.length ≤ 100)
    (hN : ∀ i : Nat, i < A.length → nearIs W H P ax ay X Y BW BH (wrap64 (fx + i)) (wrap64 (fy + j)) (nr (wrap64 (fx + i)) (wrap64 (fy + j)))) : ∀ (n i : Nat) (s : Sm), i + n = A.length →
    Ev (fun k => warp_Draw.l2 k kd y x fx A fy B (B.length : Int) (wrap64 (j + 1)) W H P ax ay X Y BW BH c r st D ox oy ow oh ow oh acc (rowS (fun a => nr a (wrap64 (fy + j))) fx v (A.drop i) i s).a0 (rowS (fun a => nr a (wrap64 (fy + j))) fx v (A.drop i) i s).a1 (rowS (fun a => nr a (wrap64 (fy + j))) fx v (A.drop i) i s).a2 (rowS (fun a => nr a (wrap64 (fy + j))) fx v (A.drop i) i s).a3 (rowS (fun a => nr a (wrap64 (fy + j))) fx v (A.drop i) i s).a4 (rowS (fun a => nr a (wrap64 (fy + j))) fx v (A.drop i) i s).a5 (rowS (fun a => nr a (wrap64 (fy + j))) fx v (A.drop i) i s).a6) R →
    Ev (fun k => warp_Draw.l3 k kd y x fx A fy j v B (B.length : Int) j A (A.length : Int) (i : Int) W H P ax ay X Y BW BH c r st D ox oy ow oh ow oh acc s.a0 s.a1 s.a2 s.a3 s.a4 s.a5 s.a6) R := by
  intro n
  induction n with
  | zero =>
    intro i s hi hE
    rw [List.drop_eq_nil_of_le (by omega)] at hE
    exact .step (fun k => by rw [warp_Draw.l3, if_neg (by omega)]; rfl) hE
  | succ n ih =>
    intro i s hi hE
    have hd : A.drop i = A[i] :: A.drop (i + 1) := List.drop_eq_getElem_cons (by omega)
    have ew : wrap64 ((i : Int) + 1) = ((i + 1 : Nat) : Int) := by rw [w64 (by omega) (by omega)]; rfl
    rw [hd] at hE
    have hn := hN i (by omega)
    unfold nearIs at hn
    refine .step (fun k => by rw [warp_Draw.l3, if_pos (by omega), if_pos (by omega), if_pos (by omega), hn, Option.bind_some, add_eq, Option.bind_some, rd_get' A i (by omega), ew]) ?_
    exact ih (i + 1) (addV s (nr (wrap64 (fx + i)) (wrap64 (fy + j))) (wrap64 (A[i] * v))) (by omega) hE
theorem draw_l2 (nr : Int → Int → S48) (y x fx : Int) (A : List Int) (fy : Int) (B : List Int) (acc : List S48) (R : Int × Int × List S48 × Int) (hA : A.length ≤ 100) (hB : B.length ≤ 100) (hacc : acc.length < 4398046511104)
    (hN : ∀ i j : Nat, i < A.length → j < B.length → nearIs W H P ax ay X Y BW BH (wrap64 (fx + i)) (wrap64 (fy + j)) (nr (wrap64 (fx + i)) (wrap64 (fy + j)))) (p : S48) : ∀ (n j : Nat) (s : Sm), j + n = B.length → pixIs (colS nr fx A fy (B.drop j) j s) p →
    Ev (fun k => warp_Draw.l1 k kd y (wrap64 (x + 1)) W H P ax ay X Y BW BH c r st D ox oy ow oh ow oh (acc ++ [p])) R →
    Ev (fun k => warp_Draw.l2 k kd y x fx A fy B (B.length : Int) (j : Int) W H P ax ay X Y BW BH c r st D ox oy ow oh ow oh acc s.a0 s.a1 s.a2 s.a3 s.a4 s.a5 s.a6) R := by
  intro n
  induction n with
  | zero =>
    intro j s hj hp hE
    rw [List.drop_eq_nil_of_le (by omega)] at hp
    have hp' : pixIs s p := hp
    unfold pixIs at hp'
    refine .step (fun k => by rw [warp_Draw.l2, if_neg (by omega)]) (hp'.bind ?_)
    simp only [if_pos hacc]
    exact hE
  | succ n ih =>
    intro j s hj hp hE
    have hd : B.drop j = B[j] :: B.drop (j + 1) := List.drop_eq_getElem_cons (by omega)
    have ew : wrap64 ((j : Int) + 1) = ((j + 1 : Nat) : Int) := by rw [w64 (by omega) (by omega)]; rfl
    rw [hd] at hp
    refine .step (fun k => by rw [warp_Draw.l2, if_pos (by omega), if_pos (by omega), if_pos (by omega), rd_get' B j (by omega)]) ?_
    refine draw_l3 kd W H P ax ay X Y BW BH c r st D ox oy ow oh nr y x fx A fy j B[j] B acc R hA (fun i hi => hN i j hi (by omega)) A.length 0 s (by omega) ?_
    rw [ew]
    exact ih (j + 1) _ (by omega) hp hE
/-- A pixel's taps: the first pixel and the weights, in X and in Y. -/
def txV (F : Int → Int → Int × List Int) (x y : Int) : Int × List Int := F kd (wrap64 ((wrap64 ((wrap64 (x * 65536)) + 32768)) + atV c r st D x y (·.f0)))
def tyV (F : Int → Int → Int × List Int) (x y : Int) : Int × List Int := F kd (wrap64 ((wrap64 ((wrap64 (y * 65536)) + 32768)) + atV c r st D x y (·.f1)))
/-- A pixel of the result. -/
def pxV (F : Int → Int → Int × List Int) (G : Sm → S48) (nr : Int → Int → S48) (x y : Int) : S48 :=
  G (colS nr (txV kd c r st D F x y).1 (txV kd c r st D F x y).2 (tyV kd c r st D F x y).1 (tyV kd c r st D F x y).2 0 sm0)
end
/-- All that the image must give for a result. -/
def nearAll (kd W H : Int) (P : List S48) (ax ay X Y BW BH c r st : Int) (D : List S28) (F : Int → Int → Int × List Int) (nr : Int → Int → S48) (x y : Int) : Prop :=
  ∀ i j : Nat, i < (txV kd c r st D F x y).2.length → j < (tyV kd c r st D F x y).2.length → nearIs W H P ax ay X Y BW BH (wrap64 ((txV kd c r st D F x y).1 + i)) (wrap64 ((tyV kd c r st D F x y).1 + j)) (nr (wrap64 ((txV kd c r st D F x y).1 + i)) (wrap64 ((tyV kd c r st D F x y).1 + j)))
theorem draw_rows {kd W H : Int} {P : List S48} {ax ay X Y BW BH c r st : Int} {D : List S28} {ox oy : Int} {w h : Nat} {F : Int → Int → Int × List Int} {G : Sm → S48} {nr : Int → Int → S48}
    (hF : ∀ v, tapsOk kd v (F kd v)) (hG : ∀ s, pixIs s (G s)) (hD : chkW c r st D = 0) (hw : w ≤ 256) (hh : h ≤ 256) (hx : -2000000 ≤ ox ∧ ox ≤ 2000000) (hy : -2000000 ≤ oy ∧ oy ≤ 2000000)
    (hN : ∀ u v : Nat, u < w → v < h → nearAll kd W H P ax ay X Y BW BH c r st D F nr (ox + u) (oy + v)) :
    Ev (fun k => warp_Draw.l0 k kd oy W H P ax ay X Y BW BH c r st D ox oy (w : Int) (h : Int) (w : Int) (h : Int) []) ((w : Int), (h : Int), fillL w (h * w) (fun u v => pxV kd c r st D F G nr (ox + u) (oy + v)), 0) := by
  have key := rows_abs w h (fun u v => pxV kd c r st D F G nr (ox + u) (oy + v)) hw hh (fun k z acc => warp_Draw.l0 k kd (oy + z) W H P ax ay X Y BW BH c r st D ox oy (w : Int) (h : Int) (w : Int) (h : Int) acc) (fun k z u acc => warp_Draw.l1 k kd (oy + z) (ox + u) W H P ax ay X Y BW BH c r st D ox oy (w : Int) (h : Int) (w : Int) (h : Int) acc) (fun acc => ((w : Int), (h : Int), acc, 0)) ?_ ?_ ?_ ?_
  · simpa using key
  · intro v acc R hv hE
    rw [Int.add_zero] at hE
    exact .step (fun k => by rw [warp_Draw.l0, w64 (x := oy + (h : Int)) (by omega) (by omega), if_pos (by omega)]) hE
  · intro v u acc R hv hu hacc hE
    have tx := hF (wrap64 ((wrap64 ((wrap64 ((ox + (u : Int)) * 65536)) + 32768)) + atV c r st D (ox + u) (oy + v) (·.f0)))
    have ty := hF (wrap64 ((wrap64 ((wrap64 ((oy + (v : Int)) * 65536)) + 32768)) + atV c r st D (ox + u) (oy + v) (·.f1)))
    refine .step (fun k => by rw [warp_Draw.l1, w64 (x := ox + (w : Int)) (by omega) (by omega), if_pos (by omega)]) ?_
    refine (at_eq hD (ox + u) (oy + v)).bind (tx.1.bind (ty.1.bind ?_))
    refine draw_l2 kd W H P ax ay X Y BW BH c r st D ox oy (w : Int) (h : Int) nr (oy + v) (ox + u) _ _ _ _ acc R tx.2.2.1 ty.2.2.1 (by omega) (hN u v hu hv) (pxV kd c r st D F G nr (ox + u) (oy + v)) _ 0 sm0 (Nat.zero_add _) (hG _) ?_
    rw [w64 (x := ox + (u : Int) + 1) (by omega) (by omega), Int.add_assoc]
    exact hE
  · intro v acc R hv hE
    refine .step (fun k => by rw [warp_Draw.l1, w64 (x := ox + (w : Int)) (by omega) (by omega), if_neg (by omega), w64 (x := oy + (v : Int) + 1) (by omega) (by omega), Int.add_assoc]) hE
  · intro acc
    exact .step (fun k => by rw [warp_Draw.l0, w64 (x := oy + (h : Int)) (by omega) (by omega), if_neg (by omega)]) (.now _)
end Go.Proofs.Ytnfbabmceddciaa.Pure
