/- WarpIgnores in plain words: pixels that are not needed have no influence, and an image that shows just the needed pixels gives the same result. For every image, mesh, kernel, part and pixel. -/
import Derived.Test.YtnfbabmceddciaaPFar
import Derived.Test.YtnfbabmceddciaaPCut
import Derived.Test.YtnfbabmceddciaaPLay
import Derived.Test.YtnfbabmceddciaaPNew
import Derived.Test.YtnfbabmceddciaaG2
import Derived.Test.YtnfbabmceddciaaG13
import Derived.Test.YtnfbabmceddciaaG32
namespace Go.Proofs.Ytnfbabmceddciaa.Pure
open Go.RowKit Go.Proofs.YtnfbabmceddciaaW.PrintWords Go.Proofs.YtnfbabmceddciaaW.PrintLast Go.Proofs.YtnfbabmceddciaaW.PrintMore Go.Proofs.Ytnfbabmceddciaa.G
set_option linter.unusedVariables false
set_option linter.unusedSimpArgs false

theorem awake_eq : Ev (fun k => imageeditorlaw15_awake.f k) true := .of imageeditorlaw15_awake.mono imageeditorlaw15_awake.known
theorem chk_fill {w h : Nat} {g : Int → Int → S48} (hs : sidesOk (w : Int) (h : Int) = true) (hg : ∀ x y, pxOkS (g x y) = true) : chk (w : Int) (h : Int) (fillL w (h * w) g) = 0 := by
  have hl : ((fillL w (h * w) g).length : Int) = (w : Int) * (h : Int) := by rw [fillL_length, Int.natCast_mul, Int.mul_comm]
  have ha : (fillL w (h * w) g).all pxOkS = true := by
    rw [List.all_eq_true]
    intro p hp
    simp only [fillL, List.mem_map] at hp
    obtain ⟨i, _, rfl⟩ := hp
    exact hg _ _
  unfold chk
  rw [if_pos ⟨hs, hl⟩, if_pos ha]
theorem pick_fill {W H : Nat} {g : Int → Int → S48} {x y : Int} (h : Ins (W : Int) (H : Int) x y) : pick (W : Int) (H : Int) (fillL W (H * W) g) x y = g x y := by
  have pl := place_in h
  rw [pick_in h, fillL_get g pl.1 (by rw [Int.natCast_mul, Int.mul_comm (H : Int)]; exact pl.2), place_mod h.1 h.2.1, place_div h.1 h.2.1]
theorem wcheckLoop' (c r s : Int) (l : List S28) (hl : (l.length : Int) ≤ 64) : ∀ (n i : Nat), i + n = l.length → Ev (fun k => imageeditorref15_Check.l0 k (l.length : Int) (i : Int) c r s l) (if (l.drop i).all ptOk = true then 0 else 2) := by
  intro n
  induction n with
  | zero =>
    intro i hi
    refine .step (f := fun _ => some 0) (fun k => by rw [imageeditorref15_Check.l0, if_neg (by omega)]) ?_
    rw [List.drop_eq_nil_of_le (by omega), if_pos (by rfl)]
    exact .now _
  | succ n ih =>
    intro i hi
    have hd : l.drop i = l[i] :: l.drop (i + 1) := List.drop_eq_getElem_cons (by omega)
    have ih' := ih (i + 1) (by omega)
    rw [hd, List.all_cons]
    have e := rd28_get l i (by omega)
    have ew : wrap64 ((i : Int) + 1) = ((i + 1 : Nat) : Int) := by rw [w64 (by omega) (by omega)]; rfl
    have bad : ptOk l[i] = false → Ev (fun _ : Nat => some (2 : Int)) (if (ptOk l[i] && (l.drop (i + 1)).all ptOk) = true then 0 else 2) := fun h => by rw [h]; exact .now _
    by_cases c1 : l[i].f0 < -1048576
    · exact .step (fun k => by rw [imageeditorref15_Check.l0, if_pos (by omega), if_pos (by omega), if_pos (by omega), e, if_pos c1]) (bad (by rw [ptOk, decide_eq_false (by omega)]))
    by_cases c2 : l[i].f0 > 1048576
    · exact .step (fun k => by rw [imageeditorref15_Check.l0, if_pos (by omega), if_pos (by omega), if_pos (by omega), e, if_neg c1, if_pos c2]) (bad (by rw [ptOk, decide_eq_false (by omega)]))
    by_cases c3 : l[i].f1 < -1048576
    · exact .step (fun k => by rw [imageeditorref15_Check.l0, if_pos (by omega), if_pos (by omega), if_pos (by omega), e, if_neg c1, if_neg c2, if_pos c3]) (bad (by rw [ptOk, decide_eq_false (by omega)]))
    by_cases c4 : l[i].f1 > 1048576
    · exact .step (fun k => by rw [imageeditorref15_Check.l0, if_pos (by omega), if_pos (by omega), if_pos (by omega), e, if_neg c1, if_neg c2, if_neg c3, if_pos c4]) (bad (by rw [ptOk, decide_eq_false (by omega)]))
    rw [show ptOk l[i] = true by rw [ptOk, decide_eq_true (by omega)], Bool.true_and]
    refine .step (fun k => by rw [imageeditorref15_Check.l0, if_pos (by omega), if_pos (by omega), if_pos (by omega), e, if_neg c1, if_neg c2, if_neg c3, if_neg c4, ew]) ?_
    exact ih'
theorem wcheck_eq' (c r s : Int) (D : List S28) : Ev (fun k => imageeditorref15_Check.f k c r s D) (chkW c r s D) := by
  have bad : meshOk c r s D = false → Ev (fun k => imageeditorref15_Check.j0 k true c r s D) (chkW c r s D) := fun h => .step (f := fun _ => some _) (fun k => by rw [imageeditorref15_Check.j0, if_pos rfl, chkW, h, if_neg (by simp)]) (.now _)
  unfold imageeditorref15_Check.f
  by_cases h1 : c < 2
  · simp only [if_pos h1]; exact bad (by rw [meshOk, decide_eq_false (by omega)])
  simp only [if_neg h1]
  by_cases h2 : c > 8
  · simp only [if_pos h2]; exact bad (by rw [meshOk, decide_eq_false (by omega)])
  simp only [if_neg h2]
  by_cases h3 : r < 2
  · simp only [if_pos h3]; exact bad (by rw [meshOk, decide_eq_false (by omega)])
  simp only [if_neg h3]
  by_cases h4 : r > 8
  · simp only [if_pos h4]; exact bad (by rw [meshOk, decide_eq_false (by omega)])
  simp only [if_neg h4]
  by_cases h5 : s < 1
  · simp only [if_pos h5]; exact bad (by rw [meshOk, decide_eq_false (by omega)])
  simp only [if_neg h5]
  by_cases h6 : s > 256
  · simp only [if_pos h6]; exact bad (by rw [meshOk, decide_eq_false (by omega)])
  simp only [if_neg h6]
  have hm := mul_b (c := c) (r := r) (by omega) (by omega) (by omega) (by omega)
  rw [w64 (by omega) (by omega)]
  by_cases h7 : (D.length : Int) = c * r
  · rw [bne_eq_false_iff_eq.2 h7]
    refine .step (fun k => by rw [imageeditorref15_Check.j0, if_neg (by simp)]) ?_
    rw [chkW, if_pos (by rw [meshOk, decide_eq_true ⟨by omega, by omega, by omega, by omega, by omega, by omega, h7⟩])]
    simpa using wcheckLoop' c r s D (by omega) D.length 0 (by omega)
  · rw [bne_iff_ne.2 h7]
    exact bad (by rw [meshOk, decide_eq_false (fun h => h7 h.2.2.2.2.2.2)])
theorem pxOk_rd {l : List S48} (h : l.all pxOkS = true) (i : Int) : pxOkS (rd_T48 l i) = true := by
  unfold rd_T48
  rw [List.getD_eq_getElem?_getD]
  by_cases c : i.toNat < l.length
  · rw [List.getElem?_eq_getElem c]
    exact List.all_eq_true.1 h _ (List.getElem_mem c)
  · rw [List.getElem?_eq_none (by omega)]
    decide
theorem pxOk_pick {W H : Int} {l : List S48} (h : l.all pxOkS = true) (x y : Int) : pxOkS (pick W H l x y) = true := by
  unfold pick
  split
  · exact pxOk_rd h _
  · decide
theorem WarpIgnores : ∀ (a0_0 : Int) (a0_1 : Int) (a0_2 : List S48) (a1_0 : Int) (a1_1 : Int) (a1_2 : Int) (a1_3 : List S28) (a2 : Int) (a3_0 : Int) (a3_1 : Int) (a3_2 : Int) (a3_3 : Int) (a4_0 : Int) (a4_1 : Int) (a4_2 : Int) (a4_3 : Int), ((Lit.int .i64 a0_0).wf = true ∧ (Lit.int .i64 a0_1).wf = true ∧ (a0_2.length ≤ maxLen ∧ ∀ x ∈ a0_2, (Lit.int .i64 x.f0).wf = true ∧ (Lit.int .i64 x.f1).wf = true ∧ (Lit.int .i64 x.f2).wf = true ∧ (Lit.int .i64 x.f3).wf = true)) → ((Lit.int .i64 a1_0).wf = true ∧ (Lit.int .i64 a1_1).wf = true ∧ (Lit.int .i64 a1_2).wf = true ∧ (a1_3.length ≤ maxLen ∧ ∀ x ∈ a1_3, (Lit.int .i64 x.f0).wf = true ∧ (Lit.int .i64 x.f1).wf = true)) → (Lit.int .i64 a2).wf = true → ((Lit.int .i64 a3_0).wf = true ∧ (Lit.int .i64 a3_1).wf = true ∧ (Lit.int .i64 a3_2).wf = true ∧ (Lit.int .i64 a3_3).wf = true) → ((Lit.int .i64 a4_0).wf = true ∧ (Lit.int .i64 a4_1).wf = true ∧ (Lit.int .i64 a4_2).wf = true ∧ (Lit.int .i64 a4_3).wf = true) → ∃ k, imageeditorlaw15_WarpIgnores.f k a0_0 a0_1 a0_2 a1_0 a1_1 a1_2 a1_3 a2 a3_0 a3_1 a3_2 a3_3 a4_0 a4_1 a4_2 a4_3 = some true := by
  intro W H P c r st D kd x y w h p0 p1 p2 p3 _ _ _ _ _
  have out : ∀ b : Bool, b = true → Ev (fun k => imageeditorlaw15_WarpIgnores.j0 k kd b W H P c r st D x y w h p0 p1 p2 p3) true := by
    intro b hb
    refine .step (fun k => by rw [imageeditorlaw15_WarpIgnores.j0, if_pos hb]) ?_
    exact awake_eq.bind (.now _)
  unfold imageeditorlaw15_WarpIgnores.f
  refine Ev.rounds ((check_eq W H P).bind ?_)
  by_cases hc : chk W H P = 0
  case neg => simp only [if_neg hc]; exact out _ rfl
  simp only [if_pos hc]
  refine (wcheck_eq' c r st D).bind ?_
  by_cases hm : chkW c r st D = 0
  case neg => exact out _ (bne_iff_ne.2 hm)
  clear out
  obtain ⟨hs, hl, ha⟩ := chk_ok hc
  obtain ⟨W, H, rfl, rfl, hW, hH, hz⟩ := nats hs
  refine .step (fun k => by rw [imageeditorlaw15_WarpIgnores.j0, if_neg (by rw [hm]; simp)]) ?_
  by_cases hO : needOk c r st D kd x y w h 0 0 W H
  case neg =>
    obtain ⟨e, he, kn⟩ := needs_bad hO
    refine kn.bind ?_
    simp only [if_neg he]
    exact awake_eq.bind (.now _)
  obtain ⟨f1, f2, f3, f4, f5⟩ := need_f hO
  have kn := needs_ok hO
  obtain ⟨w, rfl⟩ := Int.eq_ofNat_of_zero_le (show 0 ≤ w by omega)
  obtain ⟨h, rfl⟩ := Int.eq_ofNat_of_zero_le (show 0 ≤ h by omega)
  obtain ⟨F, hF⟩ := taps_fn hO.2.1
  obtain ⟨G, hG⟩ := pix_fn
  have tx := fun (u v i : Nat) hu hi => tx_in (u := u) (v := v) (i := i) hF hO hu hi
  have ty := fun (u v i : Nat) hv hi => ty_in (u := u) (v := v) (i := i) hF hO hv hi
  have dr := fun (W' H' : Int) (Q : List S48) (ax ay : Int) (nr : Int → Int → S48) hc' hax hay hcx hcy hN => draw_eq (W := W') (H := H') (P := Q) (ax := ax) (ay := ay) (F := F) (G := G) (nr := nr) hF (fun s => (hG s).1) hc' hO hax hay hcx hcy hN
  generalize loV x (padV c r st D kd) 0 = lx at *
  generalize loV y (padV c r st D kd) 0 = ly at *
  generalize hiV x w (padV c r st D kd) 0 W = hx at *
  generalize hiV y h (padV c r st D kd) 0 H = hy at *
  obtain ⟨nw, ew⟩ := Int.eq_ofNat_of_zero_le (show 0 ≤ hx - lx by omega)
  obtain ⟨nh, eh⟩ := Int.eq_ofNat_of_zero_le (show 0 ≤ hy - ly by omega)
  rw [ew, eh] at kn
  -- the pixel near a place, the same for all three images
  generalize hnr : (fun a b : Int => pick (W : Int) (H : Int) P (cw a 0 W) (cw b 0 H)) = nr at *
  have nrE : ∀ a b, nr a b = pick (W : Int) (H : Int) P (cw a 0 W) (cw b 0 H) := fun a b => by rw [← hnr]
  have inB : ∀ a b : Int, Ins (W : Int) (H : Int) (cw a 0 W) (cw b 0 H) := by
    intro a b
    have c1 := cw_b (a := a) (X := 0) (W := W) (by omega)
    have c2 := cw_b (a := b) (X := 0) (W := H) (by omega)
    exact ⟨by omega, by omega, by omega, by omega⟩
  -- an image that shows what is needed, and gives the pixels of the source there
  have near : ∀ (W' H' : Int) (Q : List S48) (ax ay : Int), chk W' H' Q = 0 → (0 ≤ ax ∧ ax ≤ 256) → (0 ≤ ay ∧ ay ≤ 256) → (∀ a b : Int, lx ≤ a → a < hx → ly ≤ b → b < hy → Ins W' H' (a - ax) (b - ay) ∧ pick W' H' Q (a - ax) (b - ay) = pick (W : Int) (H : Int) P a b) → ∀ u v : Nat, u < w → v < h → nearAll kd W' H' Q ax ay 0 0 W H c r st D F nr (x + u) (y + v) := by
    intro W' H' Q ax ay hc' hax hay hp u v hu hv i j hi hj
    have t1 := tx u v i hu hi
    have t2 := ty u v j hv hj
    obtain ⟨p1, p2⟩ := hp _ _ t1.1 t1.2 t2.1 t2.2
    have key := near_eq (ax := ax) (ay := ay) hc' (by omega) (by omega) (by omega) (by omega) (by omega) (by omega) p1
    rw [← pick_in p1, p2] at key
    rw [nrE]
    exact key
  have lims : 0 ≤ lx ∧ hx ≤ W ∧ 0 ≤ ly ∧ hy ≤ H ∧ lx ≤ x ∧ x + w ≤ hx ∧ ly ≤ y ∧ y + h ≤ hy := by omega
  have n1 := near W H P 0 0 hc (by omega) (by omega) (fun a b a1 a2 b1 b2 => by rw [Int.sub_zero, Int.sub_zero]; exact ⟨⟨by omega, by omega, by omega, by omega⟩, rfl⟩)
  have D1 := dr W H P 0 0 nr hc (by omega) (by omega) (by omega) (by omega) n1
  -- the part
  have hns : sidesOk (nw : Int) (nh : Int) = true := (sidesOk_iff _ _).2 (by omega)
  generalize hQ : fillL nw (nh * nw) (fun u v => pick (W : Int) (H : Int) P (lx + u) (ly + v)) = Q at *
  have hcQ : chk (nw : Int) (nh : Int) Q = 0 := by rw [← hQ]; exact chk_fill hns (fun _ _ => pxOk_pick ha _ _)
  have pQ : ∀ a b : Int, lx ≤ a → a < hx → ly ≤ b → b < hy → Ins (nw : Int) (nh : Int) (a - lx) (b - ly) ∧ pick (nw : Int) (nh : Int) Q (a - lx) (b - ly) = pick (W : Int) (H : Int) P a b := by
    intro a b a1 a2 b1 b2
    have hi : Ins (nw : Int) (nh : Int) (a - lx) (b - ly) := ⟨by omega, by omega, by omega, by omega⟩
    refine ⟨hi, ?_⟩
    rw [← hQ, pick_fill hi, show lx + (a - lx) = a by omega, show ly + (b - ly) = b by omega]
  have cr := crop_eq (W : Int) (H : Int) P lx ly (nw : Int) (nh : Int)
  have hvN : validR lx ly (nw : Int) (nh : Int) = true := valid_m (by omega)
  have ce : cropR (W : Int) (H : Int) P lx ly (nw : Int) (nh : Int) = ((nw : Int), (nh : Int), Q, 0) := by
    unfold cropR
    rw [if_pos hc, if_pos hvN, if_neg (by omega), if_neg (by omega), Int.toNat_natCast, Int.toNat_natCast, hQ]
  rw [ce] at cr
  have n2 := near nw nh Q lx ly hcQ (by omega) (by omega) pQ
  have D2 := dr nw nh Q lx ly nr hcQ (by omega) (by omega) (by omega) (by omega) n2
  generalize hR : fillL w (h * w) (fun u v => pxV kd c r st D F G nr (x + u) (y + v)) = R at *
  have hsm : (R.length : Int) ≤ 65536 := by
    rw [← hR, fillL_length]
    exact Int.ofNat_le.2 (Nat.le_trans (Nat.mul_le_mul (show h ≤ 256 by omega) (show w ≤ 256 by omega)) (by decide))
  have sm := same_eq R hsm (w : Int) (h : Int)
  refine kn.bind ?_
  simp only [if_true]
  refine D1.bind (cr.bind (D2.bind ?_))
  simp only [if_true]
  refine sm.bind ?_
  have hvO := hO.2.2.1
  have hvB := hO.2.2.2.1
  simp only [if_true, within_eq hvN (show (nw : Int) ≠ 0 by omega) (show (nh : Int) ≠ 0 by omega) hvB, Option.bind_some, show winR lx ly (nw : Int) (nh : Int) 0 0 W H = true from decide_eq_true (by omega), within_eq hvO (show (w : Int) ≠ 0 by omega) (show (h : Int) ≠ 0 by omega) hvN, show winR x y (w : Int) (h : Int) lx ly nw nh = true from decide_eq_true (by omega), Bool.not_true]
  refine .step (fun k => by rw [imageeditorlaw15_WarpIgnores.j1, if_neg (by simp)]) ?_
  have kw := new_eq hs hW hH ⟨p0, p1, p2, p3⟩
  by_cases hp : pxOkS ⟨p0, p1, p2, p3⟩ = true
  case neg =>
    rw [if_neg hp] at kw
    refine kw.bind ?_
    simp only [if_neg (show ¬ (2 : Int) = 0 by decide)]
    exact awake_eq.bind (.now _)
  rw [if_pos hp] at kw
  generalize hf : fillL W (H * W) (fun _ _ => (⟨p0, p1, p2, p3⟩ : S48)) = full at *
  have hcf : chk (W : Int) (H : Int) full = 0 := by rw [← hf]; exact chk_fill hs (fun _ _ => hp)
  have pu := put_eq (W : Int) (H : Int) full (nw : Int) (nh : Int) Q lx ly
  have colx : co lx = lx := by unfold co mn mx; split <;> split <;> omega
  have coly : co ly = ly := by unfold co mn mx; split <;> split <;> omega
  unfold putR at pu
  rw [if_pos hcf, if_pos hcQ, colx, coly, Int.toNat_natCast, Int.toNat_natCast] at pu
  generalize hT : fillL W (H * W) (over (W : Int) (H : Int) full (nw : Int) (nh : Int) Q lx ly) = T at *
  have hcT : chk (W : Int) (H : Int) T = 0 := by
    rw [← hT]
    refine chk_fill hs (fun a b => ?_)
    unfold over
    split
    · exact pxOk_rd (chk_ok hcQ).2.2 _
    · exact pxOk_pick (chk_ok hcf).2.2 _ _
  have n3 := near W H T 0 0 hcT (by omega) (by omega) (fun a b a1 a2 b1 b2 => by
    have hi : Ins (W : Int) (H : Int) a b := ⟨by omega, by omega, by omega, by omega⟩
    obtain ⟨q1, q2⟩ := pQ a b a1 a2 b1 b2
    rw [Int.sub_zero, Int.sub_zero]
    refine ⟨hi, ?_⟩
    rw [← hT, pick_fill hi]
    unfold over
    rw [if_pos q1, ← pick_in q1, q2])
  have D3 := dr W H T 0 0 nr hcT (by omega) (by omega) (by omega) (by omega) n3
  rw [hR] at D3
  refine kw.bind ?_
  simp only [if_true]
  refine pu.bind (D3.bind ?_)
  simp only [if_true]
  refine sm.bind ?_
  simp only [if_true]
  exact awake_eq.bind (.now _)
end Go.Proofs.Ytnfbabmceddciaa.Pure
