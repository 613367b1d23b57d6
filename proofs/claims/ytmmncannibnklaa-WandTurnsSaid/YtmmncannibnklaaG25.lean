-- Written by a program of this session (wip/gx.py over the kit's print); Lean checks it.
import Derived.Test.YtmmncannibnklaaG0
import Derived.Test.YtmmncannibnklaaG5
import Derived.Test.YtmmncannibnklaaG14
import Derived.Test.YtmmncannibnklaaG24
namespace Go.Proofs.Ytmmncannibnklaa.G
open Go.RowKit Go.Proofs.YtmmncannibnklaaW.PrintWords Go.Proofs.YtmmncannibnklaaW.PrintLast Go.Proofs.YtmmncannibnklaaW.PrintMore
attribute [local go_sem] max2_int min2_int max_two min_two max_three min_three max_four min_four   -- for this text's walks alone
set_option linter.unusedVariables false
set_option linter.unusedSimpArgs false

/-! ### imageeditorlaw24_WandTurns: function 8 -/
mutual
def imageeditorlaw24_WandTurns.j0 : Nat → Bool → Int → Int → List (S37) → Int → Int → List Int → Int → Int → List Int → Option (Bool)
 | 0, _, _, _, _, _, _, _, _, _, _ => none
 | k + 1, x82, x810000, x810001, x810002, x826000, x826001, x826002, x833000, x833001, x833002 => if x82 = true then (some false) else (imageeditorlaw24_WandTurns.l0 k (x826002.length : Int) 0 x810000 x810001 x810002 x826000 x826001 x826002 x833000 x833001 x833002)
def imageeditorlaw24_WandTurns.l0 : Nat → Int → Int → Int → Int → List (S37) → Int → Int → List Int → Int → Int → List Int → Option (Bool)
 | 0, _, _, _, _, _, _, _, _, _, _, _ => none
 | k + 1, x85, x86, x810000, x810001, x810002, x826000, x826001, x826002, x833000, x833001, x833002 => if x86 < x85 then (if 0 ≤ x86 then (if x86 < (x826002.length : Int) then (if x810000 = 0 then (none) else (if 0 ≤ (wrap64 ((wrap64 ((Int.tmod x86 x810000) * x810001)) + (wrap64 (Int.tdiv x86 x810000)))) then (if (wrap64 ((wrap64 ((Int.tmod x86 x810000) * x810001)) + (wrap64 (Int.tdiv x86 x810000)))) < (x833002.length : Int) then (if (rd x826002 x86) = (rd x833002 (wrap64 ((wrap64 ((Int.tmod x86 x810000) * x810001)) + (wrap64 (Int.tdiv x86 x810000))))) then (imageeditorlaw24_WandTurns.l0 k x85 (wrap64 (x86 + 1)) x810000 x810001 x810002 x826000 x826001 x826002 x833000 x833001 x833002) else (some false)) else (none)) else (none))) else (none)) else (none)) else ((imageeditorlaw24_awake.f k).bind fun t835 => (some t835))
end
def imageeditorlaw24_WandTurns.f (k : Nat) (a0_0 : Int) (a0_1 : Int) (l0_2 : List (S37)) (a1_0 : Int) (a1_1 : Int) (a2 : Int) (a3 : Bool) : Option (Bool) := (raster_Flip.f k a0_0 a0_1 l0_2 3).bind fun bt811 => (if bt811.2.2.2 = 0 then ((wand_Flood.f k a0_0 a0_1 l0_2 a1_0 a1_1 a2 a3).bind fun bt819 => ((wand_Flood.f k bt811.1 bt811.2.1 bt811.2.2.1 a1_1 a1_0 a2 a3).bind fun bt826 => (if bt819.2.2.2 = bt826.2.2.2 then (if (bt819.2.2.1.length : Int) = (bt826.2.2.1.length : Int) then (if bt819.2.2.2 = 0 then (if (bt819.2.2.1.length : Int) = (l0_2.length : Int) then (if bt819.1 = a0_0 then (imageeditorlaw24_WandTurns.j0 k (bt826.1 != a0_1) a0_0 a0_1 l0_2 bt819.1 bt819.2.1 bt819.2.2.1 bt826.1 bt826.2.1 bt826.2.2.1) else (imageeditorlaw24_WandTurns.j0 k true a0_0 a0_1 l0_2 bt819.1 bt819.2.1 bt819.2.2.1 bt826.1 bt826.2.1 bt826.2.2.1)) else (imageeditorlaw24_WandTurns.j0 k true a0_0 a0_1 l0_2 bt819.1 bt819.2.1 bt819.2.2.1 bt826.1 bt826.2.1 bt826.2.2.1)) else (imageeditorlaw24_WandTurns.j0 k false a0_0 a0_1 l0_2 bt819.1 bt819.2.1 bt819.2.2.1 bt826.1 bt826.2.1 bt826.2.2.1)) else (imageeditorlaw24_WandTurns.j0 k true a0_0 a0_1 l0_2 bt819.1 bt819.2.1 bt819.2.2.1 bt826.1 bt826.2.1 bt826.2.2.1)) else (imageeditorlaw24_WandTurns.j0 k true a0_0 a0_1 l0_2 bt819.1 bt819.2.1 bt819.2.2.1 bt826.1 bt826.2.1 bt826.2.2.1)))) else ((imageeditorlaw24_awake.f k).bind fun t818 => (some t818)))
theorem imageeditorlaw24_WandTurns.mono_l : ∀ k, (∀ y0 y1 y2 y3 y4 y5 y6 y7 y8 y9, LeO (imageeditorlaw24_WandTurns.j0 k y0 y1 y2 y3 y4 y5 y6 y7 y8 y9) (imageeditorlaw24_WandTurns.j0 (k + 1) y0 y1 y2 y3 y4 y5 y6 y7 y8 y9)) ∧ (∀ y0 y1 y2 y3 y4 y5 y6 y7 y8 y9 y10, LeO (imageeditorlaw24_WandTurns.l0 k y0 y1 y2 y3 y4 y5 y6 y7 y8 y9 y10) (imageeditorlaw24_WandTurns.l0 (k + 1) y0 y1 y2 y3 y4 y5 y6 y7 y8 y9 y10))
 | 0 => ⟨fun _ _ _ _ _ _ _ _ _ _ r h => by simp [imageeditorlaw24_WandTurns.j0] at h, fun _ _ _ _ _ _ _ _ _ _ _ r h => by simp [imageeditorlaw24_WandTurns.l0] at h⟩
 | k + 1 => by
  obtain ⟨ih0, ih1⟩ := imageeditorlaw24_WandTurns.mono_l k
  refine ⟨?_, ?_⟩
  ·intro y0 y1 y2 y3 y4 y5 y6 y7 y8 y9
   unfold imageeditorlaw24_WandTurns.j0
   repeat' first
   | (with_reducible exact ih0 _ _ _ _ _ _ _ _ _ _)
   | (with_reducible exact ih1 _ _ _ _ _ _ _ _ _ _ _)
   | (with_reducible exact imageeditorlaw24_awake.mono _)
   | (with_reducible exact raster_Flip.mono _ _ _ _ _)
   | (with_reducible exact wand_Flood.mono _ _ _ _ _ _ _ _)
   | (with_reducible exact LeO.refl _)
   | (with_reducible exact LeO.none _)
   | (with_reducible refine LeO.ite ?_ ?_)
   | (with_reducible refine LeO.bind ?_ (fun _ => ?_))
   | exact ih0 _ _ _ _ _ _ _ _ _ _
   | exact ih1 _ _ _ _ _ _ _ _ _ _ _
   | exact imageeditorlaw24_awake.mono _
   | exact raster_Flip.mono _ _ _ _ _
   | exact wand_Flood.mono _ _ _ _ _ _ _ _
   | exact LeO.none _
   | refine LeO.ite ?_ ?_
   | refine LeO.bind ?_ (fun _ => ?_)
  ·intro y0 y1 y2 y3 y4 y5 y6 y7 y8 y9 y10
   unfold imageeditorlaw24_WandTurns.l0
   repeat' first
   | (with_reducible exact ih0 _ _ _ _ _ _ _ _ _ _)
   | (with_reducible exact ih1 _ _ _ _ _ _ _ _ _ _ _)
   | (with_reducible exact imageeditorlaw24_awake.mono _)
   | (with_reducible exact raster_Flip.mono _ _ _ _ _)
   | (with_reducible exact wand_Flood.mono _ _ _ _ _ _ _ _)
   | (with_reducible exact LeO.refl _)
   | (with_reducible exact LeO.none _)
   | (with_reducible refine LeO.ite ?_ ?_)
   | (with_reducible refine LeO.bind ?_ (fun _ => ?_))
   | exact ih0 _ _ _ _ _ _ _ _ _ _
   | exact ih1 _ _ _ _ _ _ _ _ _ _ _
   | exact imageeditorlaw24_awake.mono _
   | exact raster_Flip.mono _ _ _ _ _
   | exact wand_Flood.mono _ _ _ _ _ _ _ _
   | exact LeO.none _
   | refine LeO.ite ?_ ?_
   | refine LeO.bind ?_ (fun _ => ?_)
theorem imageeditorlaw24_WandTurns.mono : ∀ a0 a1 a2 a3 a4 a5 a6 k, LeO (imageeditorlaw24_WandTurns.f k a0 a1 a2 a3 a4 a5 a6) (imageeditorlaw24_WandTurns.f (k + 1) a0 a1 a2 a3 a4 a5 a6) := by
 intro a0 a1 a2 a3 a4 a5 a6 k
 obtain ⟨ih0, ih1⟩ := imageeditorlaw24_WandTurns.mono_l k
 unfold imageeditorlaw24_WandTurns.f
 repeat' first
   | (with_reducible exact ih0 _ _ _ _ _ _ _ _ _ _)
   | (with_reducible exact ih1 _ _ _ _ _ _ _ _ _ _ _)
   | (with_reducible exact imageeditorlaw24_awake.mono _)
   | (with_reducible exact raster_Flip.mono _ _ _ _ _)
   | (with_reducible exact wand_Flood.mono _ _ _ _ _ _ _ _)
   | (with_reducible exact LeO.refl _)
   | (with_reducible exact LeO.none _)
   | (with_reducible refine LeO.ite ?_ ?_)
   | (with_reducible refine LeO.bind ?_ (fun _ => ?_))
   | exact ih0 _ _ _ _ _ _ _ _ _ _
   | exact ih1 _ _ _ _ _ _ _ _ _ _ _
   | exact imageeditorlaw24_awake.mono _
   | exact raster_Flip.mono _ _ _ _ _
   | exact wand_Flood.mono _ _ _ _ _ _ _ _
   | exact LeO.none _
   | refine LeO.ite ?_ ?_
   | refine LeO.bind ?_ (fun _ => ?_)
set_option maxHeartbeats 8000000 in
set_option maxRecDepth 100000 in
theorem imageeditorlaw24_WandTurns.callsT (k : Nat) (a0_0 : Int) (a0_1 : Int) (A0_2 : Option Addr) (c0_2 : Nat) (l0_2 : List (S37)) (a1_0 : Int) (a1_1 : Int) (a2 : Int) (a3 : Bool) (r : Bool) (w : World) (hr0_2 : Kd.C k37 w A0_2 l0_2.length l0_2) (hc0_2 : l0_2.length ≤ c0_2) (hT : r = true) (h : imageeditorlaw24_WandTurns.f k a0_0 a0_1 l0_2 a1_0 a1_1 a2 a3 = some r) :
  Calls Try.prog 8 #[.agg #[.int .i64 a0_0, .int .i64 a0_1, .slice A0_2 l0_2.length c0_2], .agg #[.int .i64 a1_0, .int .i64 a1_1], .int .i64 a2, .bool a3] w fun e w' => e = .returned (.bool r) ∧ Below w.heap.size w w' := by
 have hu24 := Try.underlying24
 have hu26 := Try.underlying26
 have hu29 := Try.underlying29
 have HT := Aside0.mk hT
 clear hT
 have HR0_2 := Aside0.mk hr0_2
 have HC0_2 := Aside0.mk hc0_2
 clear hr0_2 hc0_2
 have HB := Aside0.mk (Below.refl w.heap.size w)
 have H : ((raster_Flip.f k a0_0 a0_1 l0_2 3).bind fun bt811 => (if bt811.2.2.2 = 0 then ((wand_Flood.f k a0_0 a0_1 l0_2 a1_0 a1_1 a2 a3).bind fun bt819 => ((wand_Flood.f k bt811.1 bt811.2.1 bt811.2.2.1 a1_1 a1_0 a2 a3).bind fun bt826 => (if bt819.2.2.2 = bt826.2.2.2 then (if (bt819.2.2.1.length : Int) = (bt826.2.2.1.length : Int) then (if bt819.2.2.2 = 0 then (if (bt819.2.2.1.length : Int) = (l0_2.length : Int) then (if bt819.1 = a0_0 then (imageeditorlaw24_WandTurns.j0 k (bt826.1 != a0_1) a0_0 a0_1 l0_2 bt819.1 bt819.2.1 bt819.2.2.1 bt826.1 bt826.2.1 bt826.2.2.1) else (imageeditorlaw24_WandTurns.j0 k true a0_0 a0_1 l0_2 bt819.1 bt819.2.1 bt819.2.2.1 bt826.1 bt826.2.1 bt826.2.2.1)) else (imageeditorlaw24_WandTurns.j0 k true a0_0 a0_1 l0_2 bt819.1 bt819.2.1 bt819.2.2.1 bt826.1 bt826.2.1 bt826.2.2.1)) else (imageeditorlaw24_WandTurns.j0 k false a0_0 a0_1 l0_2 bt819.1 bt819.2.1 bt819.2.2.1 bt826.1 bt826.2.1 bt826.2.2.1)) else (imageeditorlaw24_WandTurns.j0 k true a0_0 a0_1 l0_2 bt819.1 bt819.2.1 bt819.2.2.1 bt826.1 bt826.2.1 bt826.2.2.1)) else (imageeditorlaw24_WandTurns.j0 k true a0_0 a0_1 l0_2 bt819.1 bt819.2.1 bt819.2.2.1 bt826.1 bt826.2.1 bt826.2.2.1)))) else ((imageeditorlaw24_awake.f k).bind fun t818 => (some t818)))) = some r := h
 clear h
 replace H := Option.bind_eq_some_iff.mp H
 obtain ⟨⟨t811, t812, t813, t816⟩, A50, H⟩ := H
 replace H : (if t816 = 0 then ((wand_Flood.f k a0_0 a0_1 l0_2 a1_0 a1_1 a2 a3).bind fun bt819 => ((wand_Flood.f k t811 t812 t813 a1_1 a1_0 a2 a3).bind fun bt826 => (if bt819.2.2.2 = bt826.2.2.2 then (if (bt819.2.2.1.length : Int) = (bt826.2.2.1.length : Int) then (if bt819.2.2.2 = 0 then (if (bt819.2.2.1.length : Int) = (l0_2.length : Int) then (if bt819.1 = a0_0 then (imageeditorlaw24_WandTurns.j0 k (bt826.1 != a0_1) a0_0 a0_1 l0_2 bt819.1 bt819.2.1 bt819.2.2.1 bt826.1 bt826.2.1 bt826.2.2.1) else (imageeditorlaw24_WandTurns.j0 k true a0_0 a0_1 l0_2 bt819.1 bt819.2.1 bt819.2.2.1 bt826.1 bt826.2.1 bt826.2.2.1)) else (imageeditorlaw24_WandTurns.j0 k true a0_0 a0_1 l0_2 bt819.1 bt819.2.1 bt819.2.2.1 bt826.1 bt826.2.1 bt826.2.2.1)) else (imageeditorlaw24_WandTurns.j0 k false a0_0 a0_1 l0_2 bt819.1 bt819.2.1 bt819.2.2.1 bt826.1 bt826.2.1 bt826.2.2.1)) else (imageeditorlaw24_WandTurns.j0 k true a0_0 a0_1 l0_2 bt819.1 bt819.2.1 bt819.2.2.1 bt826.1 bt826.2.1 bt826.2.2.1)) else (imageeditorlaw24_WandTurns.j0 k true a0_0 a0_1 l0_2 bt819.1 bt819.2.1 bt819.2.2.1 bt826.1 bt826.2.1 bt826.2.2.1)))) else ((imageeditorlaw24_awake.f k).bind fun t818 => (some t818))) = some r := H
 have A5 := Aside0.mk A50
 clear A50
 by_cases c6 : t816 = 0
 ·rw [if_pos c6] at H
  have c6b0 : (t816 == 0) = true := beq_iff_eq.mpr c6
  have c6b1 : (t816 != 0) = false := bne_eq_false_iff_eq.mpr c6
  clear c6
  replace H := Option.bind_eq_some_iff.mp H
  obtain ⟨⟨t819, t820, t821, t824⟩, A70, H⟩ := H
  replace H : ((wand_Flood.f k t811 t812 t813 a1_1 a1_0 a2 a3).bind fun bt826 => (if t824 = bt826.2.2.2 then (if (t821.length : Int) = (bt826.2.2.1.length : Int) then (if t824 = 0 then (if (t821.length : Int) = (l0_2.length : Int) then (if t819 = a0_0 then (imageeditorlaw24_WandTurns.j0 k (bt826.1 != a0_1) a0_0 a0_1 l0_2 t819 t820 t821 bt826.1 bt826.2.1 bt826.2.2.1) else (imageeditorlaw24_WandTurns.j0 k true a0_0 a0_1 l0_2 t819 t820 t821 bt826.1 bt826.2.1 bt826.2.2.1)) else (imageeditorlaw24_WandTurns.j0 k true a0_0 a0_1 l0_2 t819 t820 t821 bt826.1 bt826.2.1 bt826.2.2.1)) else (imageeditorlaw24_WandTurns.j0 k false a0_0 a0_1 l0_2 t819 t820 t821 bt826.1 bt826.2.1 bt826.2.2.1)) else (imageeditorlaw24_WandTurns.j0 k true a0_0 a0_1 l0_2 t819 t820 t821 bt826.1 bt826.2.1 bt826.2.2.1)) else (imageeditorlaw24_WandTurns.j0 k true a0_0 a0_1 l0_2 t819 t820 t821 bt826.1 bt826.2.1 bt826.2.2.1))) = some r := H
  have A7 := Aside0.mk A70
  clear A70
  replace H := Option.bind_eq_some_iff.mp H
  obtain ⟨⟨t826, t827, t828, t831⟩, A80, H⟩ := H
  replace H : (if t824 = t831 then (if (t821.length : Int) = (t828.length : Int) then (if t824 = 0 then (if (t821.length : Int) = (l0_2.length : Int) then (if t819 = a0_0 then (imageeditorlaw24_WandTurns.j0 k (t826 != a0_1) a0_0 a0_1 l0_2 t819 t820 t821 t826 t827 t828) else (imageeditorlaw24_WandTurns.j0 k true a0_0 a0_1 l0_2 t819 t820 t821 t826 t827 t828)) else (imageeditorlaw24_WandTurns.j0 k true a0_0 a0_1 l0_2 t819 t820 t821 t826 t827 t828)) else (imageeditorlaw24_WandTurns.j0 k false a0_0 a0_1 l0_2 t819 t820 t821 t826 t827 t828)) else (imageeditorlaw24_WandTurns.j0 k true a0_0 a0_1 l0_2 t819 t820 t821 t826 t827 t828)) else (imageeditorlaw24_WandTurns.j0 k true a0_0 a0_1 l0_2 t819 t820 t821 t826 t827 t828)) = some r := H
  have A8 := Aside0.mk A80
  clear A80
  have HC9 := Aside0.mk H
  clear H
  go_enter Try.func8, Try.ntmps8
  go_upto_region 6 with (first | ((with_reducible refine gate_dst (N := 4) rfl ?_); (try (refine gate_guard (by rfl) ?_; dsimp only)); refine box_event ?hg (N := 4) ?hd (cs := #[.int .i64 a0_0, .int .i64 a0_1, .slice A0_2 l0_2.length c0_2]) (t := 24) ?hr ?_; (case hd => rfl); (case hg => rfl); (case hr => first | (go_simp; done) | (go_simp; rfl)); intro gb809 hg w10 hbox hb; have GW809 := zg HB hg; have GE809 := zg HB hg; have n0_ := Aside0.mk (hbox); replace HB := zb HB hb; have BK809 := n0_; clear n0_; clear hb hbox hg) | ((with_reducible refine gate_dst (N := 5) rfl ?_); (try (refine gate_guard (by rfl) ?_; dsimp only)); refine box_event ?hg (N := 5) ?hd (cs := #[.int .i64 a1_0, .int .i64 a1_1]) (t := 26) ?hr ?_; (case hd => rfl); (case hg => rfl); (case hr => first | (go_simp; done) | (go_simp; rfl)); intro gb810 hg w11 hbox hb; have GW810 := zg HB hg; have GE810 := zg HB hg; have NB809_810 := zn BK809 hg; have NB810_809 := zn' BK809 hg; have n0_ := Aside0.mk (hbox); replace BK809 := zk BK809 hb; replace HB := zb HB hb; have BK810 := n0_; clear n0_; clear hb hbox hg; have hnb12 := NB809_810.out; have hnc12 := NB810_809.out; obtain ⟨hcz13_0, hcz13_1, hcz13_2, hfz13_0, hfz13_1, hfz13_2⟩ := zq3 BK809) | (go_at_call 21; (with_reducible refine (raster_Flip.calls k a0_0 a0_1 _ _ l0_2 3 t811 t812 t813 t816 _ ?side1 ?side2 A5.out).mono ?_); (case side1 => repeat (first | exact (Kd.C_below HR0_2.out HB.out) | (with_reducible refine Kd.C_alloc ?_ _) | (with_reducible refine Kd.C_drewN ?_ _) | (with_reducible refine Kd.C_drew ?_))); (case side2 => exact HC0_2.out); rintro e w14 ⟨v814, rfl, ho0, hb⟩; have HO815 := zl HB ho0; replace BK809 := zk BK809 hb; replace BK810 := zk BK810 hb; replace HB := zb HB hb; (try clear hb); (try clear hb2); (try clear hk); (try clear hi); (try clear ho0)) | ((with_reducible refine gate_dst (N := 9) rfl ?_); (try (refine gate_guard (by rfl) ?_; dsimp only)); refine box_event ?hg (N := 9) ?hd (cs := #[.int .i64 0, .int .i64 0, .slice none 0 0]) (t := 24) ?hr ?_; (case hd => rfl); (case hg => rfl); (case hr => first | (go_simp; done) | (go_simp; rfl)); intro gb817 hg w15 hbox hb; have GW817 := zg HB hg; have GE817 := zg HB hg; have NB809_817 := zn BK809 hg; have NB817_809 := zn' BK809 hg; have NB810_817 := zn BK810 hg; have NB817_810 := zn' BK810 hg; have n0_ := Aside0.mk (hbox); replace HO815 := zr HO815 hb; replace BK809 := zk BK809 hb; replace BK810 := zk BK810 hb; replace HB := zb HB hb; have BK817 := n0_; clear n0_; clear hb hbox hg; have hnb16 := NB817_809.out; have hnc16 := NB809_817.out; have hnb17 := NB817_810.out; have hnc17 := NB810_817.out; obtain ⟨hcz18_0, hcz18_1, hcz18_2, hfz18_0, hfz18_1, hfz18_2⟩ := zq3 BK817; obtain ⟨Ao19, co19, eo19⟩ := Kd.R_slice HO815.out; subst eo19; obtain ⟨hcz20_0, hcz20_1, hcz20_2, hfz20_0, hfz20_1, hfz20_2⟩ := zq3 BK809; obtain ⟨hcz21_0, hcz21_1, hfz21_0, hfz21_1⟩ := zq2 BK810) | (go_at_call 9; (with_reducible refine (wand_Flood.calls k a0_0 a0_1 _ _ l0_2 a1_0 a1_1 a2 a3 t819 t820 t821 t824 _ ?side1 ?side2 A7.out).mono ?_); (case side1 => exact Kd.C_below HR0_2.out (by exact zbo HB GE817)); (case side2 => exact HC0_2.out); rintro e w22 ⟨v822, rfl, ho0, hb⟩; have n0_ := Aside0.mk (Kd.R_below (by exact zro HO815 BK817 (by decide)) hb); have n1_ := Aside0.mk (Kd.R_lower ho0 (below_size (by exact zbo HB GE817))); have n2_ := Aside0.mk (blk_below (g := gb817) (o := .cells #[.int .i64 t811, .int .i64 t812, .slice Ao19 t813.length co19] 24 (0, 0)) (by exact zp BK817 rfl) hb); have n3_ := Aside0.mk (below_step (by exact zbo HB GE817) hb); replace BK809 := zfk BK809 NB809_817 hb; replace BK810 := zfk BK810 NB810_817 hb; clear HO815; clear BK817; clear HB; have HO815 := n0_; have HO823 := n1_; have BK817 := n2_; have HB := n3_; clear n0_ n1_ n2_ n3_; (try clear hb); (try clear hb2); (try clear hk); (try clear hi); (try clear ho0)) | ((with_reducible refine gate_dst (N := 11) rfl ?_); (try (refine gate_guard (by rfl) ?_; dsimp only)); refine box_event ?hg (N := 11) ?hd (cs := #[.int .i64 0, .int .i64 0, .slice none 0 0]) (t := 29) ?hr ?_; (case hd => rfl); (case hg => rfl); (case hr => first | (go_simp; done) | (go_simp; rfl)); intro gb825 hg w23 hbox hb; have GW825 := zg HB hg; have GE825 := zg HB hg; have NB809_825 := zn BK809 hg; have NB825_809 := zn' BK809 hg; have NB810_825 := zn BK810 hg; have NB825_810 := zn' BK810 hg; have NB817_825 := zn BK817 hg; have NB825_817 := zn' BK817 hg; have n0_ := Aside0.mk (hbox); replace HO815 := zr HO815 hb; replace HO823 := zr HO823 hb; replace BK809 := zk BK809 hb; replace BK810 := zk BK810 hb; replace BK817 := zk BK817 hb; replace HB := zb HB hb; have BK825 := n0_; clear n0_; clear hb hbox hg; have hnb24 := NB825_809.out; have hnc24 := NB809_825.out; have hnb25 := NB825_810.out; have hnc25 := NB810_825.out; have hnb26 := NB825_817.out; have hnc26 := NB817_825.out; obtain ⟨hcz27_0, hcz27_1, hcz27_2, hfz27_0, hfz27_1, hfz27_2⟩ := zq3 BK825; obtain ⟨Ao28, co28, eo28⟩ := Kd.R_slice HO823.out; subst eo28; obtain ⟨hcz29_0, hcz29_1, hcz29_2, hfz29_0, hfz29_1, hfz29_2⟩ := zq3 BK817; obtain ⟨hcz30_0, hcz30_1, hfz30_0, hfz30_1⟩ := zq2 BK810) | (go_at_call 9; (with_reducible refine (wand_Flood.calls k t811 t812 _ _ t813 a1_1 a1_0 a2 a3 t826 t827 t828 t831 _ ?side1 ?side2 A8.out).mono ?_); (case side1 => refine (Kd.R_reads' (e := 37) (base := w.heap.size) (ok := fun k_ => True) (n := t813.length) (c := co19) ?_).2.2; exact (by exact zro HO815 BK825 (by decide))); (case side2 => exact (Kd.R_reads' HO815.out).2.1); rintro e w31 ⟨v829, rfl, ho0, hb⟩; have n0_ := Aside0.mk (Kd.R_below (by exact zro HO815 BK825 (by decide)) hb); have n1_ := Aside0.mk (Kd.R_below (by exact zro HO823 BK825 (by decide)) hb); have n2_ := Aside0.mk (Kd.R_lower ho0 (below_size (by exact zbo HB GE825))); have n3_ := Aside0.mk (blk_below (g := gb825) (o := .cells #[.int .i64 t819, .int .i64 t820, .slice Ao28 t821.length co28] 29 (0, 0)) (by exact zp BK825 rfl) hb); have n4_ := Aside0.mk (below_step (by exact zbo HB GE825) hb); replace BK809 := zfk BK809 NB809_825 hb; replace BK810 := zfk BK810 NB810_825 hb; replace BK817 := zfk BK817 NB817_825 hb; clear HO815; clear HO823; clear BK825; clear HB; have HO815 := n0_; have HO823 := n1_; have HO830 := n2_; have BK825 := n3_; have HB := n4_; clear n0_ n1_ n2_ n3_ n4_; (try clear hb); (try clear hb2); (try clear hk); (try clear hi); (try clear ho0); (try clear BK810); (try clear HO815); (try clear BK817)) | ((with_reducible refine gate_dst (N := 13) rfl ?_); (try (refine gate_guard (by rfl) ?_; dsimp only)); refine box_event ?hg (N := 13) ?hd (cs := #[.int .i64 0, .int .i64 0, .slice none 0 0]) (t := 29) ?hr ?_; (case hd => rfl); (case hg => rfl); (case hr => first | (go_simp; done) | (go_simp; rfl)); intro gb832 hg w32 hbox hb; have GW832 := zg HB hg; have GE832 := zg HB hg; have NB809_832 := zn BK809 hg; have NB832_809 := zn' BK809 hg; have NB825_832 := zn BK825 hg; have NB832_825 := zn' BK825 hg; have n0_ := Aside0.mk (hbox); replace HO823 := zr HO823 hb; replace HO830 := zr HO830 hb; replace BK809 := zk BK809 hb; replace BK825 := zk BK825 hb; replace HB := zb HB hb; have BK832 := n0_; clear n0_; clear hb hbox hg; have hnb33 := NB832_809.out; have hnc33 := NB809_832.out; have hnb34 := NB832_825.out; have hnc34 := NB825_832.out; obtain ⟨hcz35_0, hcz35_1, hcz35_2, hfz35_0, hfz35_1, hfz35_2⟩ := zq3 BK832; obtain ⟨Ao36, co36, eo36⟩ := Kd.R_slice HO830.out; subst eo36))
  repeat (go_quiet (first | ((with_reducible refine gate_dst (N := 4) rfl ?_); (try (refine gate_guard (by rfl) ?_; dsimp only)); refine box_event ?hg (N := 4) ?hd (cs := #[.int .i64 a0_0, .int .i64 a0_1, .slice A0_2 l0_2.length c0_2]) (t := 24) ?hr ?_; (case hd => rfl); (case hg => rfl); (case hr => first | (go_simp; done) | (go_simp; rfl)); intro gb809 hg w10 hbox hb; have GW809 := zg HB hg; have GE809 := zg HB hg; have n0_ := Aside0.mk (hbox); replace HB := zb HB hb; have BK809 := n0_; clear n0_; clear hb hbox hg) | ((with_reducible refine gate_dst (N := 5) rfl ?_); (try (refine gate_guard (by rfl) ?_; dsimp only)); refine box_event ?hg (N := 5) ?hd (cs := #[.int .i64 a1_0, .int .i64 a1_1]) (t := 26) ?hr ?_; (case hd => rfl); (case hg => rfl); (case hr => first | (go_simp; done) | (go_simp; rfl)); intro gb810 hg w11 hbox hb; have GW810 := zg HB hg; have GE810 := zg HB hg; have NB809_810 := zn BK809 hg; have NB810_809 := zn' BK809 hg; have n0_ := Aside0.mk (hbox); replace BK809 := zk BK809 hb; replace HB := zb HB hb; have BK810 := n0_; clear n0_; clear hb hbox hg; have hnb12 := NB809_810.out; have hnc12 := NB810_809.out; obtain ⟨hcz13_0, hcz13_1, hcz13_2, hfz13_0, hfz13_1, hfz13_2⟩ := zq3 BK809) | (go_at_call 21; (with_reducible refine (raster_Flip.calls k a0_0 a0_1 _ _ l0_2 3 t811 t812 t813 t816 _ ?side1 ?side2 A5.out).mono ?_); (case side1 => repeat (first | exact (Kd.C_below HR0_2.out HB.out) | (with_reducible refine Kd.C_alloc ?_ _) | (with_reducible refine Kd.C_drewN ?_ _) | (with_reducible refine Kd.C_drew ?_))); (case side2 => exact HC0_2.out); rintro e w14 ⟨v814, rfl, ho0, hb⟩; have HO815 := zl HB ho0; replace BK809 := zk BK809 hb; replace BK810 := zk BK810 hb; replace HB := zb HB hb; (try clear hb); (try clear hb2); (try clear hk); (try clear hi); (try clear ho0)) | ((with_reducible refine gate_dst (N := 9) rfl ?_); (try (refine gate_guard (by rfl) ?_; dsimp only)); refine box_event ?hg (N := 9) ?hd (cs := #[.int .i64 0, .int .i64 0, .slice none 0 0]) (t := 24) ?hr ?_; (case hd => rfl); (case hg => rfl); (case hr => first | (go_simp; done) | (go_simp; rfl)); intro gb817 hg w15 hbox hb; have GW817 := zg HB hg; have GE817 := zg HB hg; have NB809_817 := zn BK809 hg; have NB817_809 := zn' BK809 hg; have NB810_817 := zn BK810 hg; have NB817_810 := zn' BK810 hg; have n0_ := Aside0.mk (hbox); replace HO815 := zr HO815 hb; replace BK809 := zk BK809 hb; replace BK810 := zk BK810 hb; replace HB := zb HB hb; have BK817 := n0_; clear n0_; clear hb hbox hg; have hnb16 := NB817_809.out; have hnc16 := NB809_817.out; have hnb17 := NB817_810.out; have hnc17 := NB810_817.out; obtain ⟨hcz18_0, hcz18_1, hcz18_2, hfz18_0, hfz18_1, hfz18_2⟩ := zq3 BK817; obtain ⟨Ao19, co19, eo19⟩ := Kd.R_slice HO815.out; subst eo19; obtain ⟨hcz20_0, hcz20_1, hcz20_2, hfz20_0, hfz20_1, hfz20_2⟩ := zq3 BK809; obtain ⟨hcz21_0, hcz21_1, hfz21_0, hfz21_1⟩ := zq2 BK810) | (go_at_call 9; (with_reducible refine (wand_Flood.calls k a0_0 a0_1 _ _ l0_2 a1_0 a1_1 a2 a3 t819 t820 t821 t824 _ ?side1 ?side2 A7.out).mono ?_); (case side1 => exact Kd.C_below HR0_2.out (by exact zbo HB GE817)); (case side2 => exact HC0_2.out); rintro e w22 ⟨v822, rfl, ho0, hb⟩; have n0_ := Aside0.mk (Kd.R_below (by exact zro HO815 BK817 (by decide)) hb); have n1_ := Aside0.mk (Kd.R_lower ho0 (below_size (by exact zbo HB GE817))); have n2_ := Aside0.mk (blk_below (g := gb817) (o := .cells #[.int .i64 t811, .int .i64 t812, .slice Ao19 t813.length co19] 24 (0, 0)) (by exact zp BK817 rfl) hb); have n3_ := Aside0.mk (below_step (by exact zbo HB GE817) hb); replace BK809 := zfk BK809 NB809_817 hb; replace BK810 := zfk BK810 NB810_817 hb; clear HO815; clear BK817; clear HB; have HO815 := n0_; have HO823 := n1_; have BK817 := n2_; have HB := n3_; clear n0_ n1_ n2_ n3_; (try clear hb); (try clear hb2); (try clear hk); (try clear hi); (try clear ho0)) | ((with_reducible refine gate_dst (N := 11) rfl ?_); (try (refine gate_guard (by rfl) ?_; dsimp only)); refine box_event ?hg (N := 11) ?hd (cs := #[.int .i64 0, .int .i64 0, .slice none 0 0]) (t := 29) ?hr ?_; (case hd => rfl); (case hg => rfl); (case hr => first | (go_simp; done) | (go_simp; rfl)); intro gb825 hg w23 hbox hb; have GW825 := zg HB hg; have GE825 := zg HB hg; have NB809_825 := zn BK809 hg; have NB825_809 := zn' BK809 hg; have NB810_825 := zn BK810 hg; have NB825_810 := zn' BK810 hg; have NB817_825 := zn BK817 hg; have NB825_817 := zn' BK817 hg; have n0_ := Aside0.mk (hbox); replace HO815 := zr HO815 hb; replace HO823 := zr HO823 hb; replace BK809 := zk BK809 hb; replace BK810 := zk BK810 hb; replace BK817 := zk BK817 hb; replace HB := zb HB hb; have BK825 := n0_; clear n0_; clear hb hbox hg; have hnb24 := NB825_809.out; have hnc24 := NB809_825.out; have hnb25 := NB825_810.out; have hnc25 := NB810_825.out; have hnb26 := NB825_817.out; have hnc26 := NB817_825.out; obtain ⟨hcz27_0, hcz27_1, hcz27_2, hfz27_0, hfz27_1, hfz27_2⟩ := zq3 BK825; obtain ⟨Ao28, co28, eo28⟩ := Kd.R_slice HO823.out; subst eo28; obtain ⟨hcz29_0, hcz29_1, hcz29_2, hfz29_0, hfz29_1, hfz29_2⟩ := zq3 BK817; obtain ⟨hcz30_0, hcz30_1, hfz30_0, hfz30_1⟩ := zq2 BK810) | (go_at_call 9; (with_reducible refine (wand_Flood.calls k t811 t812 _ _ t813 a1_1 a1_0 a2 a3 t826 t827 t828 t831 _ ?side1 ?side2 A8.out).mono ?_); (case side1 => refine (Kd.R_reads' (e := 37) (base := w.heap.size) (ok := fun k_ => True) (n := t813.length) (c := co19) ?_).2.2; exact (by exact zro HO815 BK825 (by decide))); (case side2 => exact (Kd.R_reads' HO815.out).2.1); rintro e w31 ⟨v829, rfl, ho0, hb⟩; have n0_ := Aside0.mk (Kd.R_below (by exact zro HO815 BK825 (by decide)) hb); have n1_ := Aside0.mk (Kd.R_below (by exact zro HO823 BK825 (by decide)) hb); have n2_ := Aside0.mk (Kd.R_lower ho0 (below_size (by exact zbo HB GE825))); have n3_ := Aside0.mk (blk_below (g := gb825) (o := .cells #[.int .i64 t819, .int .i64 t820, .slice Ao28 t821.length co28] 29 (0, 0)) (by exact zp BK825 rfl) hb); have n4_ := Aside0.mk (below_step (by exact zbo HB GE825) hb); replace BK809 := zfk BK809 NB809_825 hb; replace BK810 := zfk BK810 NB810_825 hb; replace BK817 := zfk BK817 NB817_825 hb; clear HO815; clear HO823; clear BK825; clear HB; have HO815 := n0_; have HO823 := n1_; have HO830 := n2_; have BK825 := n3_; have HB := n4_; clear n0_ n1_ n2_ n3_ n4_; (try clear hb); (try clear hb2); (try clear hk); (try clear hi); (try clear ho0); (try clear BK810); (try clear HO815); (try clear BK817)) | ((with_reducible refine gate_dst (N := 13) rfl ?_); (try (refine gate_guard (by rfl) ?_; dsimp only)); refine box_event ?hg (N := 13) ?hd (cs := #[.int .i64 0, .int .i64 0, .slice none 0 0]) (t := 29) ?hr ?_; (case hd => rfl); (case hg => rfl); (case hr => first | (go_simp; done) | (go_simp; rfl)); intro gb832 hg w32 hbox hb; have GW832 := zg HB hg; have GE832 := zg HB hg; have NB809_832 := zn BK809 hg; have NB832_809 := zn' BK809 hg; have NB825_832 := zn BK825 hg; have NB832_825 := zn' BK825 hg; have n0_ := Aside0.mk (hbox); replace HO823 := zr HO823 hb; replace HO830 := zr HO830 hb; replace BK809 := zk BK809 hb; replace BK825 := zk BK825 hb; replace HB := zb HB hb; have BK832 := n0_; clear n0_; clear hb hbox hg; have hnb33 := NB832_809.out; have hnc33 := NB809_832.out; have hnb34 := NB832_825.out; have hnc34 := NB825_832.out; obtain ⟨hcz35_0, hcz35_1, hcz35_2, hfz35_0, hfz35_1, hfz35_2⟩ := zq3 BK832; obtain ⟨Ao36, co36, eo36⟩ := Kd.R_slice HO830.out; subst eo36)); go_upto_region 6 with (first | ((with_reducible refine gate_dst (N := 4) rfl ?_); (try (refine gate_guard (by rfl) ?_; dsimp only)); refine box_event ?hg (N := 4) ?hd (cs := #[.int .i64 a0_0, .int .i64 a0_1, .slice A0_2 l0_2.length c0_2]) (t := 24) ?hr ?_; (case hd => rfl); (case hg => rfl); (case hr => first | (go_simp; done) | (go_simp; rfl)); intro gb809 hg w10 hbox hb; have GW809 := zg HB hg; have GE809 := zg HB hg; have n0_ := Aside0.mk (hbox); replace HB := zb HB hb; have BK809 := n0_; clear n0_; clear hb hbox hg) | ((with_reducible refine gate_dst (N := 5) rfl ?_); (try (refine gate_guard (by rfl) ?_; dsimp only)); refine box_event ?hg (N := 5) ?hd (cs := #[.int .i64 a1_0, .int .i64 a1_1]) (t := 26) ?hr ?_; (case hd => rfl); (case hg => rfl); (case hr => first | (go_simp; done) | (go_simp; rfl)); intro gb810 hg w11 hbox hb; have GW810 := zg HB hg; have GE810 := zg HB hg; have NB809_810 := zn BK809 hg; have NB810_809 := zn' BK809 hg; have n0_ := Aside0.mk (hbox); replace BK809 := zk BK809 hb; replace HB := zb HB hb; have BK810 := n0_; clear n0_; clear hb hbox hg; have hnb12 := NB809_810.out; have hnc12 := NB810_809.out; obtain ⟨hcz13_0, hcz13_1, hcz13_2, hfz13_0, hfz13_1, hfz13_2⟩ := zq3 BK809) | (go_at_call 21; (with_reducible refine (raster_Flip.calls k a0_0 a0_1 _ _ l0_2 3 t811 t812 t813 t816 _ ?side1 ?side2 A5.out).mono ?_); (case side1 => repeat (first | exact (Kd.C_below HR0_2.out HB.out) | (with_reducible refine Kd.C_alloc ?_ _) | (with_reducible refine Kd.C_drewN ?_ _) | (with_reducible refine Kd.C_drew ?_))); (case side2 => exact HC0_2.out); rintro e w14 ⟨v814, rfl, ho0, hb⟩; have HO815 := zl HB ho0; replace BK809 := zk BK809 hb; replace BK810 := zk BK810 hb; replace HB := zb HB hb; (try clear hb); (try clear hb2); (try clear hk); (try clear hi); (try clear ho0)) | ((with_reducible refine gate_dst (N := 9) rfl ?_); (try (refine gate_guard (by rfl) ?_; dsimp only)); refine box_event ?hg (N := 9) ?hd (cs := #[.int .i64 0, .int .i64 0, .slice none 0 0]) (t := 24) ?hr ?_; (case hd => rfl); (case hg => rfl); (case hr => first | (go_simp; done) | (go_simp; rfl)); intro gb817 hg w15 hbox hb; have GW817 := zg HB hg; have GE817 := zg HB hg; have NB809_817 := zn BK809 hg; have NB817_809 := zn' BK809 hg; have NB810_817 := zn BK810 hg; have NB817_810 := zn' BK810 hg; have n0_ := Aside0.mk (hbox); replace HO815 := zr HO815 hb; replace BK809 := zk BK809 hb; replace BK810 := zk BK810 hb; replace HB := zb HB hb; have BK817 := n0_; clear n0_; clear hb hbox hg; have hnb16 := NB817_809.out; have hnc16 := NB809_817.out; have hnb17 := NB817_810.out; have hnc17 := NB810_817.out; obtain ⟨hcz18_0, hcz18_1, hcz18_2, hfz18_0, hfz18_1, hfz18_2⟩ := zq3 BK817; obtain ⟨Ao19, co19, eo19⟩ := Kd.R_slice HO815.out; subst eo19; obtain ⟨hcz20_0, hcz20_1, hcz20_2, hfz20_0, hfz20_1, hfz20_2⟩ := zq3 BK809; obtain ⟨hcz21_0, hcz21_1, hfz21_0, hfz21_1⟩ := zq2 BK810) | (go_at_call 9; (with_reducible refine (wand_Flood.calls k a0_0 a0_1 _ _ l0_2 a1_0 a1_1 a2 a3 t819 t820 t821 t824 _ ?side1 ?side2 A7.out).mono ?_); (case side1 => exact Kd.C_below HR0_2.out (by exact zbo HB GE817)); (case side2 => exact HC0_2.out); rintro e w22 ⟨v822, rfl, ho0, hb⟩; have n0_ := Aside0.mk (Kd.R_below (by exact zro HO815 BK817 (by decide)) hb); have n1_ := Aside0.mk (Kd.R_lower ho0 (below_size (by exact zbo HB GE817))); have n2_ := Aside0.mk (blk_below (g := gb817) (o := .cells #[.int .i64 t811, .int .i64 t812, .slice Ao19 t813.length co19] 24 (0, 0)) (by exact zp BK817 rfl) hb); have n3_ := Aside0.mk (below_step (by exact zbo HB GE817) hb); replace BK809 := zfk BK809 NB809_817 hb; replace BK810 := zfk BK810 NB810_817 hb; clear HO815; clear BK817; clear HB; have HO815 := n0_; have HO823 := n1_; have BK817 := n2_; have HB := n3_; clear n0_ n1_ n2_ n3_; (try clear hb); (try clear hb2); (try clear hk); (try clear hi); (try clear ho0)) | ((with_reducible refine gate_dst (N := 11) rfl ?_); (try (refine gate_guard (by rfl) ?_; dsimp only)); refine box_event ?hg (N := 11) ?hd (cs := #[.int .i64 0, .int .i64 0, .slice none 0 0]) (t := 29) ?hr ?_; (case hd => rfl); (case hg => rfl); (case hr => first | (go_simp; done) | (go_simp; rfl)); intro gb825 hg w23 hbox hb; have GW825 := zg HB hg; have GE825 := zg HB hg; have NB809_825 := zn BK809 hg; have NB825_809 := zn' BK809 hg; have NB810_825 := zn BK810 hg; have NB825_810 := zn' BK810 hg; have NB817_825 := zn BK817 hg; have NB825_817 := zn' BK817 hg; have n0_ := Aside0.mk (hbox); replace HO815 := zr HO815 hb; replace HO823 := zr HO823 hb; replace BK809 := zk BK809 hb; replace BK810 := zk BK810 hb; replace BK817 := zk BK817 hb; replace HB := zb HB hb; have BK825 := n0_; clear n0_; clear hb hbox hg; have hnb24 := NB825_809.out; have hnc24 := NB809_825.out; have hnb25 := NB825_810.out; have hnc25 := NB810_825.out; have hnb26 := NB825_817.out; have hnc26 := NB817_825.out; obtain ⟨hcz27_0, hcz27_1, hcz27_2, hfz27_0, hfz27_1, hfz27_2⟩ := zq3 BK825; obtain ⟨Ao28, co28, eo28⟩ := Kd.R_slice HO823.out; subst eo28; obtain ⟨hcz29_0, hcz29_1, hcz29_2, hfz29_0, hfz29_1, hfz29_2⟩ := zq3 BK817; obtain ⟨hcz30_0, hcz30_1, hfz30_0, hfz30_1⟩ := zq2 BK810) | (go_at_call 9; (with_reducible refine (wand_Flood.calls k t811 t812 _ _ t813 a1_1 a1_0 a2 a3 t826 t827 t828 t831 _ ?side1 ?side2 A8.out).mono ?_); (case side1 => refine (Kd.R_reads' (e := 37) (base := w.heap.size) (ok := fun k_ => True) (n := t813.length) (c := co19) ?_).2.2; exact (by exact zro HO815 BK825 (by decide))); (case side2 => exact (Kd.R_reads' HO815.out).2.1); rintro e w31 ⟨v829, rfl, ho0, hb⟩; have n0_ := Aside0.mk (Kd.R_below (by exact zro HO815 BK825 (by decide)) hb); have n1_ := Aside0.mk (Kd.R_below (by exact zro HO823 BK825 (by decide)) hb); have n2_ := Aside0.mk (Kd.R_lower ho0 (below_size (by exact zbo HB GE825))); have n3_ := Aside0.mk (blk_below (g := gb825) (o := .cells #[.int .i64 t819, .int .i64 t820, .slice Ao28 t821.length co28] 29 (0, 0)) (by exact zp BK825 rfl) hb); have n4_ := Aside0.mk (below_step (by exact zbo HB GE825) hb); replace BK809 := zfk BK809 NB809_825 hb; replace BK810 := zfk BK810 NB810_825 hb; replace BK817 := zfk BK817 NB817_825 hb; clear HO815; clear HO823; clear BK825; clear HB; have HO815 := n0_; have HO823 := n1_; have HO830 := n2_; have BK825 := n3_; have HB := n4_; clear n0_ n1_ n2_ n3_ n4_; (try clear hb); (try clear hb2); (try clear hk); (try clear hi); (try clear ho0); (try clear BK810); (try clear HO815); (try clear BK817)) | ((with_reducible refine gate_dst (N := 13) rfl ?_); (try (refine gate_guard (by rfl) ?_; dsimp only)); refine box_event ?hg (N := 13) ?hd (cs := #[.int .i64 0, .int .i64 0, .slice none 0 0]) (t := 29) ?hr ?_; (case hd => rfl); (case hg => rfl); (case hr => first | (go_simp; done) | (go_simp; rfl)); intro gb832 hg w32 hbox hb; have GW832 := zg HB hg; have GE832 := zg HB hg; have NB809_832 := zn BK809 hg; have NB832_809 := zn' BK809 hg; have NB825_832 := zn BK825 hg; have NB832_825 := zn' BK825 hg; have n0_ := Aside0.mk (hbox); replace HO823 := zr HO823 hb; replace HO830 := zr HO830 hb; replace BK809 := zk BK809 hb; replace BK825 := zk BK825 hb; replace HB := zb HB hb; have BK832 := n0_; clear n0_; clear hb hbox hg; have hnb33 := NB832_809.out; have hnc33 := NB809_832.out; have hnb34 := NB832_825.out; have hnc34 := NB825_832.out; obtain ⟨hcz35_0, hcz35_1, hcz35_2, hfz35_0, hfz35_1, hfz35_2⟩ := zq3 BK832; obtain ⟨Ao36, co36, eo36⟩ := Kd.R_slice HO830.out; subst eo36)))
  (try simp only [Act.put, sA, sB, sC])
  go_cut [82] (fun v82 wc => ∃ (kq : Nat) (x82_8 : Bool), v82 = .bool x82_8 ∧ Aside0 (imageeditorlaw24_WandTurns.j0 kq x82_8 a0_0 a0_1 l0_2 t819 t820 t821 t826 t827 t828 = some r) ∧ Aside0 (kq ≤ k) ∧ Aside0 (Kd.R (Kd.int .i64) 3 wc w.heap.size (fun _ => True) (.slice Ao28 t821.length co28) t821) ∧ Aside0 (Kd.R (Kd.int .i64) 3 wc w.heap.size (fun _ => True) (.slice Ao36 t828.length co36) t828) ∧ Aside0 (wc.heap[gb809]? = some (.cells #[.int .i64 a0_0, .int .i64 a0_1, (.slice A0_2 l0_2.length c0_2)] 24 (0, 0))) ∧ Aside0 (wc.heap[gb825]? = some (.cells #[.int .i64 t819, .int .i64 t820, (.slice Ao28 t821.length co28)] 29 (0, 0))) ∧ Aside0 (wc.heap[gb832]? = some (.cells #[.int .i64 t826, .int .i64 t827, (.slice Ao36 t828.length co36)] 29 (0, 0))) ∧ Aside0 (Below w.heap.size w wc))
  case first =>
   have H := HC9.out
   clear HC9
   by_cases c37 : t824 = t831
   ·rw [if_pos c37] at H
    have c37b0 : (t824 == t831) = true := beq_iff_eq.mpr c37
    have c37b1 : (t824 != t831) = false := bne_eq_false_iff_eq.mpr c37
    clear c37
    (first | rw [c37b0] | (simp only [i64_w, i32_w]; rw [c37b0]) | skip)
    by_cases c38 : (t821.length : Int) = (t828.length : Int)
    ·rw [if_pos c38] at H
     have c38b0 : ((t821.length : Int) == (t828.length : Int)) = true := beq_iff_eq.mpr c38
     have c38b1 : ((t821.length : Int) != (t828.length : Int)) = false := bne_eq_false_iff_eq.mpr c38
     have c38b2 : (t821.length == t828.length) = true := by first | simpa using c38 | (simp at c38 ⊢; omega)
     clear c38
     by_cases c39 : t824 = 0
     ·rw [if_pos c39] at H
      have c39b0 : (t824 == 0) = true := beq_iff_eq.mpr c39
      have c39b1 : (t824 != 0) = false := bne_eq_false_iff_eq.mpr c39
      clear c39
      by_cases c40 : (t821.length : Int) = (l0_2.length : Int)
      ·rw [if_pos c40] at H
       have c40b0 : ((t821.length : Int) == (l0_2.length : Int)) = true := beq_iff_eq.mpr c40
       have c40b1 : ((t821.length : Int) != (l0_2.length : Int)) = false := bne_eq_false_iff_eq.mpr c40
       have c40b2 : (t821.length == l0_2.length) = true := by first | simpa using c40 | (simp at c40 ⊢; omega)
       clear c40
       by_cases c41 : t819 = a0_0
       ·rw [if_pos c41] at H
        have c41b0 : (t819 == a0_0) = true := beq_iff_eq.mpr c41
        have c41b1 : (t819 != a0_0) = false := bne_eq_false_iff_eq.mpr c41
        clear c41
        as_aux_lemma =>
         have H' := Aside0.mk H
         clear H
         obtain ⟨hcz42_0, hcz42_1, hcz42_2, hfz42_0, hfz42_1, hfz42_2⟩ := zq3 BK825
         obtain ⟨hcz43_0, hcz43_1, hcz43_2, hfz43_0, hfz43_1, hfz43_2⟩ := zq3 BK832
         obtain ⟨hcz44_0, hcz44_1, hcz44_2, hfz44_0, hfz44_1, hfz44_2⟩ := zq3 BK809
         go_wp2
         repeat (go_quiet (fail); try go_wp2)
         go_meet
         case rel => exact ⟨_, ((t826 != a0_1)), (by first | rfl | (simp; done) | (simp [*]; done)), H', ⟨by first | omega | exact Nat.le_refl _⟩, ⟨by exact zro HO823 BK832 (by decide)⟩, ⟨by exact zro HO830 BK832 (by decide)⟩, ⟨by exact zf BK809 NB809_832⟩, ⟨by exact zf BK825 NB825_832⟩, ⟨by exact zp BK832 rfl⟩, ⟨by exact zbo HB GE832⟩⟩
       ·rw [if_neg c41] at H
        have c41b0 : (t819 == a0_0) = false := beq_eq_false_iff_ne.mpr c41
        have c41b1 : (t819 != a0_0) = true := bne_iff_ne.mpr c41
        as_aux_lemma =>
         have H' := Aside0.mk H
         clear H
         obtain ⟨hcz45_0, hcz45_1, hcz45_2, hfz45_0, hfz45_1, hfz45_2⟩ := zq3 BK825
         obtain ⟨hcz46_0, hcz46_1, hcz46_2, hfz46_0, hfz46_1, hfz46_2⟩ := zq3 BK832
         obtain ⟨hcz47_0, hcz47_1, hcz47_2, hfz47_0, hfz47_1, hfz47_2⟩ := zq3 BK809
         go_wp2
         repeat (go_quiet (fail); try go_wp2)
         go_meet
         case rel => exact ⟨_, (true), (by first | rfl | (simp; done) | (simp [*]; done)), H', ⟨by first | omega | exact Nat.le_refl _⟩, ⟨by exact zro HO823 BK832 (by decide)⟩, ⟨by exact zro HO830 BK832 (by decide)⟩, ⟨by exact zf BK809 NB809_832⟩, ⟨by exact zf BK825 NB825_832⟩, ⟨by exact zp BK832 rfl⟩, ⟨by exact zbo HB GE832⟩⟩
      ·rw [if_neg c40] at H
       have c40b0 : ((t821.length : Int) == (l0_2.length : Int)) = false := beq_eq_false_iff_ne.mpr c40
       have c40b1 : ((t821.length : Int) != (l0_2.length : Int)) = true := bne_iff_ne.mpr c40
       have c40b2 : (t821.length == l0_2.length) = false := by first | simpa using c40 | (simp at c40 ⊢; omega)
       as_aux_lemma =>
        have H' := Aside0.mk H
        clear H
        obtain ⟨hcz48_0, hcz48_1, hcz48_2, hfz48_0, hfz48_1, hfz48_2⟩ := zq3 BK825
        obtain ⟨hcz49_0, hcz49_1, hcz49_2, hfz49_0, hfz49_1, hfz49_2⟩ := zq3 BK832
        obtain ⟨hcz50_0, hcz50_1, hcz50_2, hfz50_0, hfz50_1, hfz50_2⟩ := zq3 BK809
        go_wp2
        repeat (go_quiet (fail); try go_wp2)
        go_meet
        case rel => exact ⟨_, (true), (by first | rfl | (simp; done) | (simp [*]; done)), H', ⟨by first | omega | exact Nat.le_refl _⟩, ⟨by exact zro HO823 BK832 (by decide)⟩, ⟨by exact zro HO830 BK832 (by decide)⟩, ⟨by exact zf BK809 NB809_832⟩, ⟨by exact zf BK825 NB825_832⟩, ⟨by exact zp BK832 rfl⟩, ⟨by exact zbo HB GE832⟩⟩
     ·rw [if_neg c39] at H
      have c39b0 : (t824 == 0) = false := beq_eq_false_iff_ne.mpr c39
      have c39b1 : (t824 != 0) = true := bne_iff_ne.mpr c39
      as_aux_lemma =>
       have H' := Aside0.mk H
       clear H
       obtain ⟨hcz51_0, hcz51_1, hcz51_2, hfz51_0, hfz51_1, hfz51_2⟩ := zq3 BK825
       obtain ⟨hcz52_0, hcz52_1, hcz52_2, hfz52_0, hfz52_1, hfz52_2⟩ := zq3 BK832
       go_wp2
       repeat (go_quiet (fail); try go_wp2)
       go_meet
       case rel => exact ⟨_, (false), (by first | rfl | (simp; done) | (simp [*]; done)), H', ⟨by first | omega | exact Nat.le_refl _⟩, ⟨by exact zro HO823 BK832 (by decide)⟩, ⟨by exact zro HO830 BK832 (by decide)⟩, ⟨by exact zf BK809 NB809_832⟩, ⟨by exact zf BK825 NB825_832⟩, ⟨by exact zp BK832 rfl⟩, ⟨by exact zbo HB GE832⟩⟩
    ·rw [if_neg c38] at H
     have c38b0 : ((t821.length : Int) == (t828.length : Int)) = false := beq_eq_false_iff_ne.mpr c38
     have c38b1 : ((t821.length : Int) != (t828.length : Int)) = true := bne_iff_ne.mpr c38
     have c38b2 : (t821.length == t828.length) = false := by first | simpa using c38 | (simp at c38 ⊢; omega)
     as_aux_lemma =>
      have H' := Aside0.mk H
      clear H
      obtain ⟨hcz53_0, hcz53_1, hcz53_2, hfz53_0, hfz53_1, hfz53_2⟩ := zq3 BK825
      obtain ⟨hcz54_0, hcz54_1, hcz54_2, hfz54_0, hfz54_1, hfz54_2⟩ := zq3 BK832
      go_wp2
      repeat (go_quiet (fail); try go_wp2)
      go_meet
      case rel => exact ⟨_, (true), (by first | rfl | (simp; done) | (simp [*]; done)), H', ⟨by first | omega | exact Nat.le_refl _⟩, ⟨by exact zro HO823 BK832 (by decide)⟩, ⟨by exact zro HO830 BK832 (by decide)⟩, ⟨by exact zf BK809 NB809_832⟩, ⟨by exact zf BK825 NB825_832⟩, ⟨by exact zp BK832 rfl⟩, ⟨by exact zbo HB GE832⟩⟩
   ·rw [if_neg c37] at H
    have c37b0 : (t824 == t831) = false := beq_eq_false_iff_ne.mpr c37
    have c37b1 : (t824 != t831) = true := bne_iff_ne.mpr c37
    (first | rw [c37b0] | (simp only [i64_w, i32_w]; rw [c37b0]) | skip)
    as_aux_lemma =>
     have H' := Aside0.mk H
     clear H
     go_wp2
     repeat (go_quiet (fail); try go_wp2)
     go_meet
     case rel => exact ⟨_, (true), (by first | rfl | (simp; done) | (simp [*]; done)), H', ⟨by first | omega | exact Nat.le_refl _⟩, ⟨by exact zro HO823 BK832 (by decide)⟩, ⟨by exact zro HO830 BK832 (by decide)⟩, ⟨by exact zf BK809 NB809_832⟩, ⟨by exact zf BK825 NB825_832⟩, ⟨by exact zp BK832 rfl⟩, ⟨by exact zbo HB GE832⟩⟩
  case rest =>
   clear HC9
   try clear c1
   try clear c2
   try clear p2
   try clear q2
   try clear c3
   try clear q3
   try clear c4
   try clear c6
   try clear c6b0
   try clear c6b1
   try clear c8
   try clear c12
   try clear c16
   try clear c17
   try clear c24
   try clear c25
   try clear c26
   try clear c33
   try clear c34
   try clear c37
   try clear c37b0
   try clear c37b1
   try clear c38
   try clear c38b0
   try clear c38b1
   try clear c38b2
   try clear c39
   try clear c39b0
   try clear c39b1
   try clear c40
   try clear c40b0
   try clear c40b1
   try clear c40b2
   try clear c41
   try clear c41b0
   try clear c41b1
   try clear hcz13_0
   try clear hcz13_1
   try clear hcz13_2
   try clear hcz18_0
   try clear hcz18_1
   try clear hcz18_2
   try clear hcz20_0
   try clear hcz20_1
   try clear hcz20_2
   try clear hcz21_0
   try clear hcz21_1
   try clear hcz27_0
   try clear hcz27_1
   try clear hcz27_2
   try clear hcz29_0
   try clear hcz29_1
   try clear hcz29_2
   try clear hcz30_0
   try clear hcz30_1
   try clear hcz35_0
   try clear hcz35_1
   try clear hcz35_2
   try clear hcz42_0
   try clear hcz42_1
   try clear hcz42_2
   try clear hcz43_0
   try clear hcz43_1
   try clear hcz43_2
   try clear hcz44_0
   try clear hcz44_1
   try clear hcz44_2
   try clear hcz45_0
   try clear hcz45_1
   try clear hcz45_2
   try clear hcz46_0
   try clear hcz46_1
   try clear hcz46_2
   try clear hcz47_0
   try clear hcz47_1
   try clear hcz47_2
   try clear hcz48_0
   try clear hcz48_1
   try clear hcz48_2
   try clear hcz49_0
   try clear hcz49_1
   try clear hcz49_2
   try clear hcz50_0
   try clear hcz50_1
   try clear hcz50_2
   try clear hcz51_0
   try clear hcz51_1
   try clear hcz51_2
   try clear hcz52_0
   try clear hcz52_1
   try clear hcz52_2
   try clear hcz53_0
   try clear hcz53_1
   try clear hcz53_2
   try clear hcz54_0
   try clear hcz54_1
   try clear hcz54_2
   try clear hfz13_0
   try clear hfz13_1
   try clear hfz13_2
   try clear hfz18_0
   try clear hfz18_1
   try clear hfz18_2
   try clear hfz20_0
   try clear hfz20_1
   try clear hfz20_2
   try clear hfz21_0
   try clear hfz21_1
   try clear hfz27_0
   try clear hfz27_1
   try clear hfz27_2
   try clear hfz29_0
   try clear hfz29_1
   try clear hfz29_2
   try clear hfz30_0
   try clear hfz30_1
   try clear hfz35_0
   try clear hfz35_1
   try clear hfz35_2
   try clear hfz42_0
   try clear hfz42_1
   try clear hfz42_2
   try clear hfz43_0
   try clear hfz43_1
   try clear hfz43_2
   try clear hfz44_0
   try clear hfz44_1
   try clear hfz44_2
   try clear hfz45_0
   try clear hfz45_1
   try clear hfz45_2
   try clear hfz46_0
   try clear hfz46_1
   try clear hfz46_2
   try clear hfz47_0
   try clear hfz47_1
   try clear hfz47_2
   try clear hfz48_0
   try clear hfz48_1
   try clear hfz48_2
   try clear hfz49_0
   try clear hfz49_1
   try clear hfz49_2
   try clear hfz50_0
   try clear hfz50_1
   try clear hfz50_2
   try clear hfz51_0
   try clear hfz51_1
   try clear hfz51_2
   try clear hfz52_0
   try clear hfz52_1
   try clear hfz52_2
   try clear hfz53_0
   try clear hfz53_1
   try clear hfz53_2
   try clear hfz54_0
   try clear hfz54_1
   try clear hfz54_2
   obtain ⟨kq, x82_8, rfl, HA, HJ8, HO_826002, HO_833002, BK809, BK825, BK832, HB⟩ := hcut
   cases kq with
   | zero => exact absurd HA.out (by simp [imageeditorlaw24_WandTurns.j0])
   | succ kj8 =>
    have H := HA.out
    clear HA
    simp only [imageeditorlaw24_WandTurns.j0] at H
    by_cases c55 : x82_8 = true
    ·subst c55
     have H1 : (some false) = some r := by rw [if_pos rfl] at H; exact H
     clear H
     have H := H1
     clear H1
     as_aux_lemma =>
      exact absurd HT.out (by rw [← Option.some.inj H]; decide)
    ·replace c55 := Bool.eq_false_iff.mpr c55
     subst c55
     have H1 : (imageeditorlaw24_WandTurns.l0 kj8 (t821.length : Int) 0 a0_0 a0_1 l0_2 t819 t820 t821 t826 t827 t828) = some r := by rw [if_neg (show ¬ (false = true) by decide)] at H; exact H
     clear H
     have H := H1
     clear H1
     have H' := Aside0.mk H
     clear H
     obtain ⟨hcz56_0, hcz56_1, hcz56_2, hfz56_0, hfz56_1, hfz56_2⟩ := zq3 BK825
     go_wp2
     repeat (go_quiet (fail); try go_wp2)
     go_loopg [86] kj8 (fun kq v86 w' => ∃ (x86_2 : Int), v86 = .int .i64 x86_2 ∧ Aside0 (imageeditorlaw24_WandTurns.l0 kq (t821.length : Int) x86_2 a0_0 a0_1 l0_2 t819 t820 t821 t826 t827 t828 = some r) ∧ Aside0 (kq ≤ kj8) ∧ Aside0 (Kd.R (Kd.int .i64) 3 w' w.heap.size (fun _ => True) (.slice Ao28 t821.length co28) t821) ∧ Aside0 (Kd.R (Kd.int .i64) 3 w' w.heap.size (fun _ => True) (.slice Ao36 t828.length co36) t828) ∧ Aside0 (w'.heap[gb809]? = some (.cells #[.int .i64 a0_0, .int .i64 a0_1, (.slice A0_2 l0_2.length c0_2)] 24 (0, 0))) ∧ Aside0 (w'.heap[gb825]? = some (.cells #[.int .i64 t819, .int .i64 t820, (.slice Ao28 t821.length co28)] 29 (0, 0))) ∧ Aside0 (w'.heap[gb832]? = some (.cells #[.int .i64 t826, .int .i64 t827, (.slice Ao36 t828.length co36)] 29 (0, 0))) ∧ Aside0 (Below w.heap.size w w'))
     case atStart => exact ⟨(0), (by first | rfl | (simp; done) | (simp [*]; done)), H', ⟨Nat.le_refl _⟩, ⟨by exact zr0 HO_826002⟩, ⟨by exact zr0 HO_833002⟩, ⟨by exact zk0 BK809⟩, ⟨by exact zk0 BK825⟩, ⟨by exact zk0 BK832⟩, ⟨by exact zb0 HB⟩⟩
     case round =>
      clear H'
      try clear c1
      try clear c2
      try clear p2
      try clear q2
      try clear c3
      try clear q3
      try clear c4
      try clear c5
      try clear c6
      try clear c6b0
      try clear c6b1
      try clear c8
      try clear c12
      try clear c16
      try clear c17
      try clear c24
      try clear c25
      try clear c26
      try clear c33
      try clear c34
      try clear c37
      try clear c37b0
      try clear c37b1
      try clear c38
      try clear c38b0
      try clear c38b1
      try clear c38b2
      try clear c39
      try clear c39b0
      try clear c39b1
      try clear c40
      try clear c40b0
      try clear c40b1
      try clear c40b2
      try clear c41
      try clear c41b0
      try clear c41b1
      try clear c55
      try clear hcz13_0
      try clear hcz13_1
      try clear hcz13_2
      try clear hcz18_0
      try clear hcz18_1
      try clear hcz18_2
      try clear hcz20_0
      try clear hcz20_1
      try clear hcz20_2
      try clear hcz21_0
      try clear hcz21_1
      try clear hcz27_0
      try clear hcz27_1
      try clear hcz27_2
      try clear hcz29_0
      try clear hcz29_1
      try clear hcz29_2
      try clear hcz30_0
      try clear hcz30_1
      try clear hcz35_0
      try clear hcz35_1
      try clear hcz35_2
      try clear hcz42_0
      try clear hcz42_1
      try clear hcz42_2
      try clear hcz43_0
      try clear hcz43_1
      try clear hcz43_2
      try clear hcz44_0
      try clear hcz44_1
      try clear hcz44_2
      try clear hcz45_0
      try clear hcz45_1
      try clear hcz45_2
      try clear hcz46_0
      try clear hcz46_1
      try clear hcz46_2
      try clear hcz47_0
      try clear hcz47_1
      try clear hcz47_2
      try clear hcz48_0
      try clear hcz48_1
      try clear hcz48_2
      try clear hcz49_0
      try clear hcz49_1
      try clear hcz49_2
      try clear hcz50_0
      try clear hcz50_1
      try clear hcz50_2
      try clear hcz51_0
      try clear hcz51_1
      try clear hcz51_2
      try clear hcz52_0
      try clear hcz52_1
      try clear hcz52_2
      try clear hcz53_0
      try clear hcz53_1
      try clear hcz53_2
      try clear hcz54_0
      try clear hcz54_1
      try clear hcz54_2
      try clear hcz56_0
      try clear hcz56_1
      try clear hcz56_2
      try clear hfz13_0
      try clear hfz13_1
      try clear hfz13_2
      try clear hfz18_0
      try clear hfz18_1
      try clear hfz18_2
      try clear hfz20_0
      try clear hfz20_1
      try clear hfz20_2
      try clear hfz21_0
      try clear hfz21_1
      try clear hfz27_0
      try clear hfz27_1
      try clear hfz27_2
      try clear hfz29_0
      try clear hfz29_1
      try clear hfz29_2
      try clear hfz30_0
      try clear hfz30_1
      try clear hfz35_0
      try clear hfz35_1
      try clear hfz35_2
      try clear hfz42_0
      try clear hfz42_1
      try clear hfz42_2
      try clear hfz43_0
      try clear hfz43_1
      try clear hfz43_2
      try clear hfz44_0
      try clear hfz44_1
      try clear hfz44_2
      try clear hfz45_0
      try clear hfz45_1
      try clear hfz45_2
      try clear hfz46_0
      try clear hfz46_1
      try clear hfz46_2
      try clear hfz47_0
      try clear hfz47_1
      try clear hfz47_2
      try clear hfz48_0
      try clear hfz48_1
      try clear hfz48_2
      try clear hfz49_0
      try clear hfz49_1
      try clear hfz49_2
      try clear hfz50_0
      try clear hfz50_1
      try clear hfz50_2
      try clear hfz51_0
      try clear hfz51_1
      try clear hfz51_2
      try clear hfz52_0
      try clear hfz52_1
      try clear hfz52_2
      try clear hfz53_0
      try clear hfz53_1
      try clear hfz53_2
      try clear hfz54_0
      try clear hfz54_1
      try clear hfz54_2
      try clear hfz56_0
      try clear hfz56_1
      try clear hfz56_2
      try clear p2
      try clear q2
      try clear q3
      obtain ⟨x86_2, rfl, HA, HK2, HO_826002, HO_833002, BK809, BK825, BK832, HB⟩ := hrel
      cases gk with
      | zero => exact absurd HA.out (by simp [imageeditorlaw24_WandTurns.l0])
      | succ k2 =>
       have H := HA.out
       clear HA
       simp only [imageeditorlaw24_WandTurns.l0] at H
       by_cases c57 : x86_2 < (t821.length : Int)
       ·rw [if_pos c57] at H
        have c57b0 : decide (x86_2 < (t821.length : Int)) = true := decide_eq_true c57
        clear c57
        by_cases c58 : 0 ≤ x86_2
        ·rw [if_pos c58] at H
         have c58b0 : decide (0 ≤ x86_2) = true := decide_eq_true c58
         clear c58
         by_cases c59 : x86_2 < (t821.length : Int)
         ·rw [if_pos c59] at H
          have c59b0 : decide (x86_2 < (t821.length : Int)) = true := decide_eq_true c59
          clear c59
          by_cases c60 : a0_0 = 0
          ·rw [if_pos c60] at H
           exact absurd H (by simp)
          ·rw [if_neg c60] at H
           have c60b0 : (a0_0 == 0) = false := beq_eq_false_iff_ne.mpr c60
           have c60b1 : (a0_0 != 0) = true := bne_iff_ne.mpr c60
           obtain ⟨ji61, hji61⟩ : ∃ j_ : Int, (wrap64 ((wrap64 ((Int.tmod x86_2 a0_0) * a0_1)) + (wrap64 (Int.tdiv x86_2 a0_0)))) = j_ := ⟨_, rfl⟩
           replace H : (if 0 ≤ (ji61) then (if (ji61) < (t828.length : Int) then (if (rd t821 x86_2) = (rd t828 (ji61)) then (imageeditorlaw24_WandTurns.l0 k2 (t821.length : Int) (wrap64 (x86_2 + 1)) a0_0 a0_1 l0_2 t819 t820 t821 t826 t827 t828) else (some false)) else (none)) else (none)) = some r := by first | (rw [hji61] at H; exact H) | (simp only [hji61] at H ⊢; exact H)
           have hji61w : (IntKind.i64.wrap ((wrap64 ((Int.tmod x86_2 a0_0) * a0_1)) + (wrap64 (Int.tdiv x86_2 a0_0)))) = ji61 := (i64_w _).trans hji61
           by_cases c62 : 0 ≤ (ji61)
           ·rw [if_pos c62] at H
            have c62b0 : decide (0 ≤ (ji61)) = true := decide_eq_true c62
            clear c62
            by_cases c63 : (ji61) < (t828.length : Int)
            ·rw [if_pos c63] at H
             have c63b0 : decide ((ji61) < (t828.length : Int)) = true := decide_eq_true c63
             clear c63
             by_cases c64 : (rd t821 x86_2) = (rd t828 (ji61))
             ·rw [if_pos c64] at H
              have c64b0 : ((rd t821 x86_2) == (rd t828 (ji61))) = true := beq_iff_eq.mpr c64
              have c64b1 : ((rd t821 x86_2) != (rd t828 (ji61))) = false := bne_eq_false_iff_eq.mpr c64
              clear c64
              as_aux_lemma =>
               have H' := Aside0.mk H
               clear H
               obtain ⟨hcz65_0, hcz65_1, hcz65_2, hfz65_0, hfz65_1, hfz65_2⟩ := zq3 BK825
               have p833 : 0 ≤ (x86_2 : Int) := of_decide_eq_true (by first | (with_reducible assumption) | assumption)
               have q833 : x86_2 < (t821.length : Int) := of_decide_eq_true (by first | (with_reducible assumption) | assumption)
               obtain ⟨ad833, e833, hx833_0⟩ := Kd.at_int (Kd.R_reads' HO_826002.out).2.2 x86_2 p833 q833
               cases e833
               replace p833 := eq_true p833
               replace q833 := eq_true q833
               obtain ⟨hcz66_0, hcz66_1, hcz66_2, hfz66_0, hfz66_1, hfz66_2⟩ := zq3 BK832
               obtain ⟨hcz67_0, hcz67_1, hcz67_2, hfz67_0, hfz67_1, hfz67_2⟩ := zq3 BK809
               have p834 : 0 ≤ ((ji61) : Int) := of_decide_eq_true (by first | (with_reducible assumption) | assumption)
               have q834 : (ji61) < (t828.length : Int) := of_decide_eq_true (by first | (with_reducible assumption) | assumption)
               obtain ⟨ad834, e834, hx834_0⟩ := Kd.at_int (Kd.R_reads' HO_833002.out).2.2 (ji61) p834 q834
               cases e834
               replace p834 := eq_true p834
               replace q834 := eq_true q834
               go_wp2
               repeat (go_quiet (fail); try go_wp2)
               first | go_roundg k2 | ((try subst hji61); go_roundg k2)
               case measure => have := HJ8.out; have := HK2.out; omega
               case rel => first | (exact ⟨(wrap64 (x86_2 + 1)), (by first | rfl | (simp; done) | (simp [*]; done)), H', ⟨by have := HJ8.out; have := HK2.out; omega⟩, ⟨by exact zr0 HO_826002⟩, ⟨by exact zr0 HO_833002⟩, ⟨by exact zk0 BK809⟩, ⟨by exact zk0 BK825⟩, ⟨by exact zk0 BK832⟩, ⟨by exact zb0 HB⟩⟩) | (exact ⟨(wrap64 (x86_2 + 1)), (by first | rfl | (simp; done) | (simp [*]; done)), H', ⟨by have := HJ8.out; have := HK2.out; omega⟩, ⟨by exact zr0 HO_826002⟩, ⟨by exact zr0 HO_833002⟩, ⟨by exact zk0 BK809⟩, ⟨by exact zk0 BK825⟩, ⟨by exact zk0 BK832⟩, ⟨by exact zb0 HB⟩⟩)
             ·rw [if_neg c64] at H
              have c64b0 : ((rd t821 x86_2) == (rd t828 (ji61))) = false := beq_eq_false_iff_ne.mpr c64
              have c64b1 : ((rd t821 x86_2) != (rd t828 (ji61))) = true := bne_iff_ne.mpr c64
              as_aux_lemma =>
               exact absurd HT.out (by rw [← Option.some.inj H]; decide)
            ·rw [if_neg c63] at H
             exact absurd H (by simp)
           ·rw [if_neg c62] at H
            exact absurd H (by simp)
         ·rw [if_neg c59] at H
          exact absurd H (by simp)
        ·rw [if_neg c58] at H
         exact absurd H (by simp)
       ·rw [if_neg c57] at H
        have c57b0 : decide (x86_2 < (t821.length : Int)) = false := decide_eq_false c57
        clear c57
        replace H := Option.bind_eq_some_iff.mp H
        obtain ⟨t835, A680, H⟩ := H
        replace H : (some t835) = some r := H
        have A68 := Aside0.mk A680
        clear A680
        as_aux_lemma =>
         obtain rfl := Option.some.inj H
         (try clear HO_826002)
         (try clear HO_833002)
         (try clear BK809)
         (try clear BK825)
         (try clear BK832)
         go_wp2_with (first | (go_at_call 12; (with_reducible refine (imageeditorlaw24_awake.calls k2  t835 _ A68.out).mono ?_); rintro e w69 ⟨rfl, hb⟩; replace HB := zb HB hb; (try clear hb); (try clear hb2); (try clear hk); (try clear hi)))
         repeat (go_quiet (first | (go_at_call 12; (with_reducible refine (imageeditorlaw24_awake.calls k2  t835 _ A68.out).mono ?_); rintro e w69 ⟨rfl, hb⟩; replace HB := zb HB hb; (try clear hb); (try clear hb2); (try clear hk); (try clear hi))); try go_wp2_with (first | (go_at_call 12; (with_reducible refine (imageeditorlaw24_awake.calls k2  t835 _ A68.out).mono ?_); rintro e w69 ⟨rfl, hb⟩; replace HB := zb HB hb; (try clear hb); (try clear hb2); (try clear hk); (try clear hi))))
         go_ret
         exact ⟨by first | rfl | (simp [errW_none, errW_some] <;> rfl) | (simp [*, errW_none, errW_some] <;> rfl), by exact zb0 HB⟩
 ·rw [if_neg c6] at H
  have c6b0 : (t816 == 0) = false := beq_eq_false_iff_ne.mpr c6
  have c6b1 : (t816 != 0) = true := bne_iff_ne.mpr c6
  replace H := Option.bind_eq_some_iff.mp H
  obtain ⟨t818, A700, H⟩ := H
  replace H : (some t818) = some r := H
  have A70 := Aside0.mk A700
  clear A700
  as_aux_lemma =>
   obtain rfl := Option.some.inj H
   go_enter Try.func8, Try.ntmps8
   go_wp2_with (first | ((with_reducible refine gate_dst (N := 4) rfl ?_); (try (refine gate_guard (by rfl) ?_; dsimp only)); refine box_event ?hg (N := 4) ?hd (cs := #[.int .i64 a0_0, .int .i64 a0_1, .slice A0_2 l0_2.length c0_2]) (t := 24) ?hr ?_; (case hd => rfl); (case hg => rfl); (case hr => first | (go_simp; done) | (go_simp; rfl)); intro gb809 hg w71 hbox hb; have GW809 := zg HB hg; have GE809 := zg HB hg; have n0_ := Aside0.mk (hbox); replace HB := zb HB hb; have BK809 := n0_; clear n0_; clear hb hbox hg) | ((with_reducible refine gate_dst (N := 5) rfl ?_); (try (refine gate_guard (by rfl) ?_; dsimp only)); refine box_event ?hg (N := 5) ?hd (cs := #[.int .i64 a1_0, .int .i64 a1_1]) (t := 26) ?hr ?_; (case hd => rfl); (case hg => rfl); (case hr => first | (go_simp; done) | (go_simp; rfl)); intro gb810 hg w72 hbox hb; have GW810 := zg HB hg; have GE810 := zg HB hg; have NB809_810 := zn BK809 hg; have NB810_809 := zn' BK809 hg; have n0_ := Aside0.mk (hbox); replace BK809 := zk BK809 hb; replace HB := zb HB hb; have BK810 := n0_; clear n0_; clear hb hbox hg; have hnb73 := NB809_810.out; have hnc73 := NB810_809.out; obtain ⟨hcz74_0, hcz74_1, hcz74_2, hfz74_0, hfz74_1, hfz74_2⟩ := zq3 BK809; (try clear BK809); (try clear BK810)) | (go_at_call 21; (with_reducible refine (raster_Flip.calls k a0_0 a0_1 _ _ l0_2 3 t811 t812 t813 t816 _ ?side1 ?side2 A5.out).mono ?_); (case side1 => repeat (first | exact (Kd.C_below HR0_2.out HB.out) | (with_reducible refine Kd.C_alloc ?_ _) | (with_reducible refine Kd.C_drewN ?_ _) | (with_reducible refine Kd.C_drew ?_))); (case side2 => exact HC0_2.out); rintro e w75 ⟨v814, rfl, ho0, hb⟩; have HO815 := zl HB ho0; replace HB := zb HB hb; (try clear hb); (try clear hb2); (try clear hk); (try clear hi); (try clear ho0)) | ((with_reducible refine gate_dst (N := 9) rfl ?_); (try (refine gate_guard (by rfl) ?_; dsimp only)); refine box_event ?hg (N := 9) ?hd (cs := #[.int .i64 0, .int .i64 0, .slice none 0 0]) (t := 24) ?hr ?_; (case hd => rfl); (case hg => rfl); (case hr => first | (go_simp; done) | (go_simp; rfl)); intro gb817 hg w76 hbox hb; have GW817 := zg HB hg; have GE817 := zg HB hg; have n0_ := Aside0.mk (hbox); replace HO815 := zr HO815 hb; replace HB := zb HB hb; have BK817 := n0_; clear n0_; clear hb hbox hg; obtain ⟨hcz77_0, hcz77_1, hcz77_2, hfz77_0, hfz77_1, hfz77_2⟩ := zq3 BK817; obtain ⟨Ao78, co78, eo78⟩ := Kd.R_slice HO815.out; subst eo78) | (go_at_call 12; (with_reducible refine (imageeditorlaw24_awake.calls k  t818 _ A70.out).mono ?_); rintro e w79 ⟨rfl, hb⟩; have n0_ := Aside0.mk (Kd.R_below (by exact zro HO815 BK817 (by decide)) hb); have n1_ := Aside0.mk (blk_below (g := gb817) (o := .cells #[.int .i64 t811, .int .i64 t812, .slice Ao78 t813.length co78] 24 (0, 0)) (by exact zp BK817 rfl) hb); have n2_ := Aside0.mk (below_step (by exact zbo HB GE817) hb); clear HO815; clear BK817; clear HB; have HO815 := n0_; have BK817 := n1_; have HB := n2_; clear n0_ n1_ n2_; (try clear hb); (try clear hb2); (try clear hk); (try clear hi)))
   repeat (go_quiet (first | ((with_reducible refine gate_dst (N := 4) rfl ?_); (try (refine gate_guard (by rfl) ?_; dsimp only)); refine box_event ?hg (N := 4) ?hd (cs := #[.int .i64 a0_0, .int .i64 a0_1, .slice A0_2 l0_2.length c0_2]) (t := 24) ?hr ?_; (case hd => rfl); (case hg => rfl); (case hr => first | (go_simp; done) | (go_simp; rfl)); intro gb809 hg w71 hbox hb; have GW809 := zg HB hg; have GE809 := zg HB hg; have n0_ := Aside0.mk (hbox); replace HB := zb HB hb; have BK809 := n0_; clear n0_; clear hb hbox hg) | ((with_reducible refine gate_dst (N := 5) rfl ?_); (try (refine gate_guard (by rfl) ?_; dsimp only)); refine box_event ?hg (N := 5) ?hd (cs := #[.int .i64 a1_0, .int .i64 a1_1]) (t := 26) ?hr ?_; (case hd => rfl); (case hg => rfl); (case hr => first | (go_simp; done) | (go_simp; rfl)); intro gb810 hg w72 hbox hb; have GW810 := zg HB hg; have GE810 := zg HB hg; have NB809_810 := zn BK809 hg; have NB810_809 := zn' BK809 hg; have n0_ := Aside0.mk (hbox); replace BK809 := zk BK809 hb; replace HB := zb HB hb; have BK810 := n0_; clear n0_; clear hb hbox hg; have hnb73 := NB809_810.out; have hnc73 := NB810_809.out; obtain ⟨hcz74_0, hcz74_1, hcz74_2, hfz74_0, hfz74_1, hfz74_2⟩ := zq3 BK809; (try clear BK809); (try clear BK810)) | (go_at_call 21; (with_reducible refine (raster_Flip.calls k a0_0 a0_1 _ _ l0_2 3 t811 t812 t813 t816 _ ?side1 ?side2 A5.out).mono ?_); (case side1 => repeat (first | exact (Kd.C_below HR0_2.out HB.out) | (with_reducible refine Kd.C_alloc ?_ _) | (with_reducible refine Kd.C_drewN ?_ _) | (with_reducible refine Kd.C_drew ?_))); (case side2 => exact HC0_2.out); rintro e w75 ⟨v814, rfl, ho0, hb⟩; have HO815 := zl HB ho0; replace HB := zb HB hb; (try clear hb); (try clear hb2); (try clear hk); (try clear hi); (try clear ho0)) | ((with_reducible refine gate_dst (N := 9) rfl ?_); (try (refine gate_guard (by rfl) ?_; dsimp only)); refine box_event ?hg (N := 9) ?hd (cs := #[.int .i64 0, .int .i64 0, .slice none 0 0]) (t := 24) ?hr ?_; (case hd => rfl); (case hg => rfl); (case hr => first | (go_simp; done) | (go_simp; rfl)); intro gb817 hg w76 hbox hb; have GW817 := zg HB hg; have GE817 := zg HB hg; have n0_ := Aside0.mk (hbox); replace HO815 := zr HO815 hb; replace HB := zb HB hb; have BK817 := n0_; clear n0_; clear hb hbox hg; obtain ⟨hcz77_0, hcz77_1, hcz77_2, hfz77_0, hfz77_1, hfz77_2⟩ := zq3 BK817; obtain ⟨Ao78, co78, eo78⟩ := Kd.R_slice HO815.out; subst eo78) | (go_at_call 12; (with_reducible refine (imageeditorlaw24_awake.calls k  t818 _ A70.out).mono ?_); rintro e w79 ⟨rfl, hb⟩; have n0_ := Aside0.mk (Kd.R_below (by exact zro HO815 BK817 (by decide)) hb); have n1_ := Aside0.mk (blk_below (g := gb817) (o := .cells #[.int .i64 t811, .int .i64 t812, .slice Ao78 t813.length co78] 24 (0, 0)) (by exact zp BK817 rfl) hb); have n2_ := Aside0.mk (below_step (by exact zbo HB GE817) hb); clear HO815; clear BK817; clear HB; have HO815 := n0_; have BK817 := n1_; have HB := n2_; clear n0_ n1_ n2_; (try clear hb); (try clear hb2); (try clear hk); (try clear hi))); try go_wp2_with (first | ((with_reducible refine gate_dst (N := 4) rfl ?_); (try (refine gate_guard (by rfl) ?_; dsimp only)); refine box_event ?hg (N := 4) ?hd (cs := #[.int .i64 a0_0, .int .i64 a0_1, .slice A0_2 l0_2.length c0_2]) (t := 24) ?hr ?_; (case hd => rfl); (case hg => rfl); (case hr => first | (go_simp; done) | (go_simp; rfl)); intro gb809 hg w71 hbox hb; have GW809 := zg HB hg; have GE809 := zg HB hg; have n0_ := Aside0.mk (hbox); replace HB := zb HB hb; have BK809 := n0_; clear n0_; clear hb hbox hg) | ((with_reducible refine gate_dst (N := 5) rfl ?_); (try (refine gate_guard (by rfl) ?_; dsimp only)); refine box_event ?hg (N := 5) ?hd (cs := #[.int .i64 a1_0, .int .i64 a1_1]) (t := 26) ?hr ?_; (case hd => rfl); (case hg => rfl); (case hr => first | (go_simp; done) | (go_simp; rfl)); intro gb810 hg w72 hbox hb; have GW810 := zg HB hg; have GE810 := zg HB hg; have NB809_810 := zn BK809 hg; have NB810_809 := zn' BK809 hg; have n0_ := Aside0.mk (hbox); replace BK809 := zk BK809 hb; replace HB := zb HB hb; have BK810 := n0_; clear n0_; clear hb hbox hg; have hnb73 := NB809_810.out; have hnc73 := NB810_809.out; obtain ⟨hcz74_0, hcz74_1, hcz74_2, hfz74_0, hfz74_1, hfz74_2⟩ := zq3 BK809; (try clear BK809); (try clear BK810)) | (go_at_call 21; (with_reducible refine (raster_Flip.calls k a0_0 a0_1 _ _ l0_2 3 t811 t812 t813 t816 _ ?side1 ?side2 A5.out).mono ?_); (case side1 => repeat (first | exact (Kd.C_below HR0_2.out HB.out) | (with_reducible refine Kd.C_alloc ?_ _) | (with_reducible refine Kd.C_drewN ?_ _) | (with_reducible refine Kd.C_drew ?_))); (case side2 => exact HC0_2.out); rintro e w75 ⟨v814, rfl, ho0, hb⟩; have HO815 := zl HB ho0; replace HB := zb HB hb; (try clear hb); (try clear hb2); (try clear hk); (try clear hi); (try clear ho0)) | ((with_reducible refine gate_dst (N := 9) rfl ?_); (try (refine gate_guard (by rfl) ?_; dsimp only)); refine box_event ?hg (N := 9) ?hd (cs := #[.int .i64 0, .int .i64 0, .slice none 0 0]) (t := 24) ?hr ?_; (case hd => rfl); (case hg => rfl); (case hr => first | (go_simp; done) | (go_simp; rfl)); intro gb817 hg w76 hbox hb; have GW817 := zg HB hg; have GE817 := zg HB hg; have n0_ := Aside0.mk (hbox); replace HO815 := zr HO815 hb; replace HB := zb HB hb; have BK817 := n0_; clear n0_; clear hb hbox hg; obtain ⟨hcz77_0, hcz77_1, hcz77_2, hfz77_0, hfz77_1, hfz77_2⟩ := zq3 BK817; obtain ⟨Ao78, co78, eo78⟩ := Kd.R_slice HO815.out; subst eo78) | (go_at_call 12; (with_reducible refine (imageeditorlaw24_awake.calls k  t818 _ A70.out).mono ?_); rintro e w79 ⟨rfl, hb⟩; have n0_ := Aside0.mk (Kd.R_below (by exact zro HO815 BK817 (by decide)) hb); have n1_ := Aside0.mk (blk_below (g := gb817) (o := .cells #[.int .i64 t811, .int .i64 t812, .slice Ao78 t813.length co78] 24 (0, 0)) (by exact zp BK817 rfl) hb); have n2_ := Aside0.mk (below_step (by exact zbo HB GE817) hb); clear HO815; clear BK817; clear HB; have HO815 := n0_; have BK817 := n1_; have HB := n2_; clear n0_ n1_ n2_; (try clear hb); (try clear hb2); (try clear hk); (try clear hi))))
   go_ret
   exact ⟨by first | rfl | (simp [errW_none, errW_some] <;> rfl) | (simp [*, errW_none, errW_some] <;> rfl), by exact zb0 HB⟩

end Go.Proofs.Ytmmncannibnklaa.G
