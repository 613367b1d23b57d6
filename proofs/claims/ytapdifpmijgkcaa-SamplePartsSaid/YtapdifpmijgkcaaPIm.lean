/- Images in plain words: Check, places, images that are filled row by row, same. -/
import Derived.Test.YtapdifpmijgkcaaPDivP
import Derived.Test.YtapdifpmijgkcaaG1
import Derived.Test.YtapdifpmijgkcaaG9
namespace Go.Proofs.Ytapdifpmijgkcaa.Pure
open Go.RowKit Go.Proofs.YtapdifpmijgkcaaW.PrintWords Go.Proofs.YtapdifpmijgkcaaW.PrintLast Go.Proofs.YtapdifpmijgkcaaW.PrintMore Go.Proofs.Ytapdifpmijgkcaa.G
set_option linter.unusedVariables false
set_option linter.unusedSimpArgs false

/-- A number limited to a unit value. -/
def cl (x : Int) : Int := mn 65535 (mx x 0)
theorem cl_lo (x : Int) : 0 ≤ cl x := by unfold cl mn mx; split <;> split <;> omega
theorem cl_hi (x : Int) : cl x ≤ 65535 := by unfold cl mn mx; split <;> split <;> omega
theorem cl_id {x : Int} (h : 0 ≤ x) (h' : x ≤ 65535) : cl x = x := by unfold cl mn mx; split <;> split <;> omega
theorem limit_eq (a b c d : Int) : pixel_Limit.f a b c d = some (cl a, cl b, cl c, cl d) := rfl
/-- All values are unit values. -/
def pxOk (a b c d : Int) : Bool := a == cl a && (b == cl b && (c == cl c && d == cl d))
theorem valid_eq (a b c d : Int) : pixel_Valid.f a b c d = some (pxOk a b c d) := rfl
theorem beq_turn (a b : Int) : (a == b) = (b == a) := by rw [Bool.eq_iff_iff, beq_iff_eq, beq_iff_eq]; exact eq_comm
theorem pxOk_iff (a b c d : Int) : pxOk a b c d = true ↔ (0 ≤ a ∧ a ≤ 65535) ∧ (0 ≤ b ∧ b ≤ 65535) ∧ (0 ≤ c ∧ c ≤ 65535) ∧ (0 ≤ d ∧ d ≤ 65535) := by
  have key : ∀ x : Int, (x == cl x) = true ↔ 0 ≤ x ∧ x ≤ 65535 := by
    intro x
    rw [beq_iff_eq]
    constructor
    · intro h
      have := cl_lo x
      have := cl_hi x
      omega
    · intro h
      exact (cl_id h.1 h.2).symm
  simp only [pxOk, Bool.and_eq_true, key]
/-! ### Check -/
def pxOkS (p : S37) : Bool := pxOk p.f0 p.f1 p.f2 p.f3
def sidesOk (a b : Int) : Bool := decide (0 ≤ a ∧ a ≤ 256 ∧ 0 ≤ b ∧ b ≤ 256 ∧ (a = 0 ↔ b = 0))
/-- The error of an image: 15 (size), 2 (range) or 0. -/
def chk (a b : Int) (l : List S37) : Int := if sidesOk a b = true ∧ (l.length : Int) = a * b then (if l.all pxOkS = true then 0 else 2) else 15
theorem sides_eq (a b : Int) : raster_sides.f a b = some (if sidesOk a b = true then 0 else 15) := by
  unfold raster_sides.f sidesOk
  have key : ((a == 0) != (b == 0)) = true ↔ ¬ (a = 0 ↔ b = 0) := by
    rw [show (a == 0) = decide (a = 0) from rfl, show (b == 0) = decide (b = 0) from rfl]
    by_cases h : a = 0 <;> by_cases h' : b = 0 <;> simp [h, h']
  simp only [key, decide_eq_true_eq]
  split
  · rw [if_neg (by omega)]
  split
  · rw [if_neg (by omega)]
  split
  · rw [if_neg (by omega)]
  split
  · rw [if_neg (by omega)]
  split
  · rename_i h
    rw [if_neg (fun h' => h h'.2.2.2.2)]
  · rename_i h1 h2 h3 h4 h
    rw [if_pos ⟨by omega, by omega, by omega, by omega, Decidable.not_not.1 h⟩]
theorem rd_get (l : List S37) (i : Nat) (h : i < l.length) : rd_T37 l (i : Int) = l[i] := by
  simp [rd_T37, List.getD_eq_getElem?_getD, List.getElem?_eq_getElem h]
theorem checkLoop (l : List S37) (hl : (l.length : Int) ≤ 65536) : ∀ (n i : Nat), i + n = l.length → Ev (fun k => raster_Check.l0 k l (l.length : Int) (i : Int)) (if (l.drop i).all pxOkS = true then 0 else 2) := by
  intro n
  induction n with
  | zero =>
    intro i hi
    refine .step (f := fun _ => some 0) (fun k => by rw [raster_Check.l0, if_neg (by omega)]) ?_
    rw [List.drop_eq_nil_of_le (by omega), if_pos (by rfl)]
    exact .now _
  | succ n ih =>
    intro i hi
    have hd : l.drop i = l[i] :: l.drop (i + 1) := List.drop_eq_getElem_cons (by omega)
    rw [hd, List.all_cons]
    refine .step (fun k => by rw [raster_Check.l0, if_pos (by omega), if_pos (by omega), if_pos (by omega), valid_eq, Option.bind_some, rd_get l i (by omega), w64 (by omega) (by omega)]) ?_
    cases hp : pxOkS l[i] with
    | false =>
      have hp' : pxOk l[i].f0 l[i].f1 l[i].f2 l[i].f3 = false := hp
      simp only [hp', Bool.false_and]
      exact .now _
    | true =>
      have hp' : pxOk l[i].f0 l[i].f1 l[i].f2 l[i].f3 = true := hp
      simp only [hp', Bool.true_and, if_true]
      exact ih (i + 1) (by omega)
theorem sidesOk_iff (a b : Int) : sidesOk a b = true ↔ 0 ≤ a ∧ a ≤ 256 ∧ 0 ≤ b ∧ b ≤ 256 ∧ (a = 0 ↔ b = 0) := by simp only [sidesOk, decide_eq_true_eq]
theorem area {a b : Int} (h : sidesOk a b = true) : 0 ≤ a * b ∧ a * b ≤ 65536 := by
  rw [sidesOk_iff] at h
  refine ⟨Int.mul_nonneg h.1 h.2.2.1, ?_⟩
  have := Int.mul_le_mul h.2.1 h.2.2.2.1 h.2.2.1 (by omega : (0 : Int) ≤ 256)
  omega
theorem check_eq (a b : Int) (l : List S37) : Ev (fun k => raster_Check.f k a b l) (chk a b l) := by
  unfold raster_Check.f chk
  simp only [sides_eq, Option.bind_some]
  cases hs : sidesOk a b with
  | false =>
    simp only [Bool.false_eq_true, if_false, false_and, show ((15 : Int) = 0) = False from by simp]
    exact .step (f := fun _ => some 15) (fun k => by rw [raster_Check.j0, if_pos rfl]) (.now _)
  | true =>
    have ha := area hs
    simp only [if_true, true_and, w64 (show -9223372036854775808 ≤ a * b by omega) (by omega)]
    by_cases hl : (l.length : Int) = a * b
    · rw [if_pos hl]
      refine .step (fun k => by rw [raster_Check.j0, if_neg (by simp [hl])]) ?_
      simpa using checkLoop l (by omega) l.length 0 (by omega)
    · rw [if_neg hl]
      exact .step (f := fun _ => some 15) (fun k => by rw [raster_Check.j0, if_pos (by simpa using hl)]) (.now _)
/-- An image without error. -/
theorem chk_ok {a b : Int} {l : List S37} (h : chk a b l = 0) : sidesOk a b = true ∧ (l.length : Int) = a * b ∧ l.all pxOkS = true := by
  unfold chk at h
  split at h
  · rename_i h'
    split at h
    · rename_i h''
      exact ⟨h'.1, h'.2, h''⟩
    · omega
  · omega
/-- Inside. -/
def Ins (W H x y : Int) : Prop := 0 ≤ x ∧ x < W ∧ 0 ≤ y ∧ y < H
/-! ### Places and numbers -/
theorem place_div {W x y : Int} (h : 0 ≤ x) (h' : x < W) : (y * W + x) / W = y := by
  rw [Int.add_comm, Int.add_mul_ediv_right _ _ (by omega), Int.ediv_eq_zero_of_lt h h', Int.zero_add]
theorem place_mod {W x y : Int} (h : 0 ≤ x) (h' : x < W) : (y * W + x) % W = x := by
  rw [Int.add_comm, Int.add_mul_emod_self_right, Int.emod_eq_of_lt h h']
theorem place_in {W H x y : Int} (h : Ins W H x y) : 0 ≤ y * W + x ∧ y * W + x < W * H := by
  obtain ⟨h1, h2, h3, h4⟩ := h
  have a := Int.mul_nonneg h3 (show 0 ≤ W by omega)
  have b := Int.mul_le_mul_of_nonneg_right (show y ≤ H - 1 by omega) (show 0 ≤ W by omega)
  rw [Int.sub_mul, Int.mul_comm H W] at b
  omega
theorem place_inj {W H x y u v : Int} (h : Ins W H x y) (h' : Ins W H u v) (e : y * W + x = v * W + u) : x = u ∧ y = v := by
  have a := place_mod (y := y) h.1 h.2.1
  have b := place_div (y := y) h.1 h.2.1
  rw [e, place_mod h'.1 h'.2.1] at a
  rw [e, place_div h'.1 h'.2.1] at b
  exact ⟨a.symm, b.symm⟩
theorem place_of {W H i : Int} (hW : 0 < W) (h : 0 ≤ i) (h' : i < W * H) : Ins W H (i % W) (i / W) ∧ i / W * W + i % W = i := by
  refine ⟨⟨Int.emod_nonneg _ (by omega), Int.emod_lt_of_pos _ hW, Int.ediv_nonneg h (by omega), Int.ediv_lt_of_lt_mul hW (by rw [Int.mul_comm]; exact h')⟩, ?_⟩
  rw [Int.mul_comm]
  exact Int.mul_ediv_add_emod i W
/-- The first pixels of an image that is filled row by row. -/
def fillL (w n : Nat) (g : Int → Int → S37) : List S37 := (List.range n).map fun i => g ((i % w : Nat) : Int) ((i / w : Nat) : Int)
theorem fillL_length (w n : Nat) (g : Int → Int → S37) : (fillL w n g).length = n := by simp [fillL]
theorem fillL_step {w x y : Nat} (hx : x < w) (g : Int → Int → S37) : fillL w (y * w + x) g ++ [g (x : Int) (y : Int)] = fillL w (y * w + (x + 1)) g := by
  have e1 : (y * w + x) % w = x := by rw [Nat.add_comm, Nat.add_mul_mod_self_right, Nat.mod_eq_of_lt hx]
  have e2 : (y * w + x) / w = y := by rw [Nat.add_comm, Nat.add_mul_div_right _ _ (by omega), Nat.div_eq_of_lt hx, Nat.zero_add]
  rw [fillL, fillL, show y * w + (x + 1) = (y * w + x) + 1 by omega, List.range_succ, List.map_append, List.map_singleton, e1, e2]
theorem fillL_get {w n : Nat} (g : Int → Int → S37) {i : Int} (hi : 0 ≤ i) (hi' : i < n) : rd_T37 (fillL w n g) i = g (i % (w : Int)) (i / (w : Int)) := by
  obtain ⟨a, rfl⟩ := Int.eq_ofNat_of_zero_le hi
  have ha : a < (fillL w n g).length := by rw [fillL_length]; omega
  rw [rd_get _ a ha]
  simp only [fillL, List.getElem_map, List.getElem_range]
  rfl
instance (W H x y : Int) : Decidable (Ins W H x y) := by unfold Ins; infer_instance
/-- A pixel, the zero pixel outside. -/
def pick (W H : Int) (l : List S37) (x y : Int) : S37 := if Ins W H x y then rd_T37 l (y * W + x) else z37
theorem pick_in {W H : Int} {l : List S37} {x y : Int} (h : Ins W H x y) : pick W H l x y = rd_T37 l (y * W + x) := if_pos h
theorem pick_out {W H : Int} {l : List S37} {x y : Int} (h : ¬ Ins W H x y) : pick W H l x y = z37 := if_neg h
theorem rows_abs {R : Type} (w h : Nat) (g : Int → Int → S37) (hw : w ≤ 256) (hh : h ≤ 256) (F0 : Nat → Int → List S37 → Option R) (F1 : Nat → Int → Int → List S37 → Option R) (fin : List S37 → R)
    (h0 : ∀ (y : Nat) (acc : List S37) (r : R), y < h → Ev (fun k => F1 k (y : Int) 0 acc) r → Ev (fun k => F0 k (y : Int) acc) r)
    (h1 : ∀ (y x : Nat) (acc : List S37) (r : R), y < h → x < w → acc.length ≤ 65536 → Ev (fun k => F1 k (y : Int) ((x : Int) + 1) (acc ++ [g (x : Int) (y : Int)])) r → Ev (fun k => F1 k (y : Int) (x : Int) acc) r)
    (h2 : ∀ (y : Nat) (acc : List S37) (r : R), y < h → Ev (fun k => F0 k ((y : Int) + 1) acc) r → Ev (fun k => F1 k (y : Int) (w : Int) acc) r)
    (h3 : ∀ acc : List S37, Ev (fun k => F0 k (h : Int) acc) (fin acc)) : Ev (fun k => F0 k 0 []) (fin (fillL w (h * w) g)) := by
  have inner : ∀ (y : Nat) (r : R), y < h → Ev (fun k => F0 k ((y : Int) + 1) (fillL w ((y + 1) * w) g)) r → ∀ (m x : Nat), x + m = w → Ev (fun k => F1 k (y : Int) (x : Int) (fillL w (y * w + x) g)) r := by
    intro y r hy hn m
    induction m with
    | zero =>
      intro x hx
      obtain rfl : x = w := by omega
      refine h2 y _ r hy ?_
      rw [show y * x + x = (y + 1) * x by rw [Nat.succ_mul]]
      exact hn
    | succ m ih =>
      intro x hx
      have hyw : y * w + x ≤ 65536 := by
        have := Nat.mul_le_mul (show y ≤ 255 by omega) hw
        omega
      refine h1 y x _ r hy (by omega) (by rw [fillL_length]; exact hyw) ?_
      rw [fillL_step (show x < w by omega)]
      exact ih (x + 1) (by omega)
  have outer : ∀ (m y : Nat), y + m = h → Ev (fun k => F0 k (y : Int) (fillL w (y * w) g)) (fin (fillL w (h * w) g)) := by
    intro m
    induction m with
    | zero =>
      intro y hy
      obtain rfl : y = h := by omega
      exact h3 _
    | succ m ih =>
      intro y hy
      refine h0 y _ _ (by omega) ?_
      exact inner y _ (by omega) (ih (y + 1) (by omega)) w 0 (by omega)
  have := outer h 0 (by omega)
  simpa [fillL] using this
theorem fillL_congr {w n : Nat} {g g' : Int → Int → S37} (h : ∀ x y : Nat, x < w → y * w + x < n → g (x : Int) (y : Int) = g' (x : Int) (y : Int)) (hw : 0 < w ∨ n = 0) : fillL w n g = fillL w n g' := by
  unfold fillL
  refine List.map_congr_left fun i hi => ?_
  have hi' := List.mem_range.1 hi
  have hw' : 0 < w := by omega
  refine h _ _ (Nat.mod_lt _ hw') ?_
  rw [Nat.mul_comm, Nat.div_add_mod]
  exact hi'
/-- What an image function returns. -/
abbrev Res := Int × Int × List S37 × Int
theorem pix_same (p : S37) : (!(p.f0 == p.f0) || (!(p.f1 == p.f1) || (!(p.f2 == p.f2) || (!(p.f3 == p.f3))))) = false := by simp
theorem sameLoop (V : List S37) (hV : (V.length : Int) ≤ 65536) (W H W' H' : Int) : ∀ (n i : Nat), i + n = V.length → Ev (fun k => imageeditorlaw14_same.l0 k (V.length : Int) (i : Int) W H V W' H' V) true := by
  intro n
  induction n with
  | zero => intro i hi; exact .step (f := fun _ => some true) (fun k => by rw [imageeditorlaw14_same.l0, if_neg (by omega)]) (.now _)
  | succ n ih =>
    intro i hi
    refine .step (fun k => by rw [imageeditorlaw14_same.l0, if_pos (by omega), if_pos (by omega), if_pos (by omega), if_pos (by omega), pix_same, if_neg (by simp), w64 (by omega) (by omega)]) ?_
    exact ih (i + 1) (by omega)
theorem same_eq (V : List S37) (hV : (V.length : Int) ≤ 65536) (W H : Int) : Ev (fun k => imageeditorlaw14_same.f k W H V W H V) true := by
  unfold imageeditorlaw14_same.f
  simp only [if_true]
  refine .step (fun k => by rw [imageeditorlaw14_same.j0, if_neg (by simp)]) ?_
  exact sameLoop V hV W H W H V.length 0 (by omega)
theorem chk_small {W H : Int} {l : List S37} (h : chk W H l = 0) : (l.length : Int) ≤ 65536 := by
  obtain ⟨hs, hl, _⟩ := chk_ok h
  have := area hs
  omega
theorem nats {W H : Int} (hs : sidesOk W H = true) : ∃ w h : Nat, W = (w : Int) ∧ H = (h : Int) ∧ w ≤ 256 ∧ h ≤ 256 ∧ (w = 0 ↔ h = 0) := by
  have hsd := (sidesOk_iff W H).1 hs
  obtain ⟨w, rfl⟩ := Int.eq_ofNat_of_zero_le hsd.1
  obtain ⟨h, rfl⟩ := Int.eq_ofNat_of_zero_le hsd.2.2.1
  exact ⟨w, h, rfl, rfl, by omega, by omega, by omega⟩
end Go.Proofs.Ytapdifpmijgkcaa.Pure
