/- The weighted sums in plain words: a pixel's sums always give a pixel. -/
import Derived.Test.YtnfbabmceddciaaPTaps
import Derived.Test.YtnfbabmceddciaaG1
import Derived.Test.YtnfbabmceddciaaG10
import Derived.Test.YtnfbabmceddciaaG11
namespace Go.Proofs.Ytnfbabmceddciaa.Pure
open Go.RowKit Go.Proofs.YtnfbabmceddciaaW.PrintWords Go.Proofs.YtnfbabmceddciaaW.PrintLast Go.Proofs.YtnfbabmceddciaaW.PrintMore Go.Proofs.Ytnfbabmceddciaa.G
set_option linter.unusedVariables false
set_option linter.unusedSimpArgs false

/-- Weighted sums. -/
structure Sm where
  a0 : Int
  a1 : Int
  a2 : Int
  a3 : Int
  a4 : Int
  a5 : Int
  a6 : Int
def sm0 : Sm := ⟨0, 0, 0, 0, 0, 0, 0⟩
def addV (s : Sm) (p : S48) (w : Int) : Sm := ⟨wrap64 (s.a0 + (wrap64 (w * p.f3))), wrap64 (s.a1 + (wrap64 ((wrap64 (w * p.f3)) * (p.f0 / 256)))), wrap64 (s.a2 + (wrap64 ((wrap64 (w * p.f3)) * (p.f1 / 256)))), wrap64 (s.a3 + (wrap64 ((wrap64 (w * p.f3)) * (p.f2 / 256)))), wrap64 (s.a4 + (wrap64 ((wrap64 (w * p.f3)) * (Go.bits .and .i64 p.f0 255)))), wrap64 (s.a5 + (wrap64 ((wrap64 (w * p.f3)) * (Go.bits .and .i64 p.f1 255)))), wrap64 (s.a6 + (wrap64 ((wrap64 (w * p.f3)) * (Go.bits .and .i64 p.f2 255))))⟩
theorem add_eq (s : Sm) (p : S48) (w : Int) : warp_sums_add.f s.a0 s.a1 s.a2 s.a3 s.a4 s.a5 s.a6 p.f0 p.f1 p.f2 p.f3 w = some ((addV s p w).a0, (addV s p w).a1, (addV s p w).a2, (addV s p w).a3, (addV s p w).a4, (addV s p w).a5, (addV s p w).a6) := rfl
theorem chan1 (s : Sm) (i : Int) (hi : i = 0 ∨ i = 1 ∨ i = 2) : ∃ c, (0 ≤ c ∧ c ≤ 65535) ∧ warp_sums_channel.f 1 s.a0 s.a1 s.a2 s.a3 s.a4 s.a5 s.a6 i = some (c, s.a0, s.a1, s.a2, s.a3, s.a4, s.a5, s.a6) := by
  have cb : ∀ x : Int, 0 ≤ mn 65535 (mx x 0) ∧ mn 65535 (mx x 0) ≤ 65535 := by intro x; unfold mn mx; split <;> split <;> omega
  unfold warp_sums_channel.f
  rcases hi with rfl | rfl | rfl
  · obtain ⟨q, hq⟩ := floor_tot s.a1 s.a0
    obtain ⟨d, hd⟩ := div1 (wrap64 ((wrap64 (256 * (wrap64 (s.a1 - (wrap64 (q * s.a0)))))) + s.a4)) s.a0
    exact ⟨_, cb (wrap64 ((wrap64 (256 * q)) + d)), by rw [if_pos rfl, hq, Option.bind_some, hd]; rfl⟩
  · obtain ⟨q, hq⟩ := floor_tot s.a2 s.a0
    obtain ⟨d, hd⟩ := div1 (wrap64 ((wrap64 (256 * (wrap64 (s.a2 - (wrap64 (q * s.a0)))))) + s.a5)) s.a0
    exact ⟨_, cb (wrap64 ((wrap64 (256 * q)) + d)), by rw [if_neg (by decide), if_pos rfl, hq, Option.bind_some, hd]; rfl⟩
  · obtain ⟨q, hq⟩ := floor_tot s.a3 s.a0
    obtain ⟨d, hd⟩ := div1 (wrap64 ((wrap64 (256 * (wrap64 (s.a3 - (wrap64 (q * s.a0)))))) + s.a6)) s.a0
    exact ⟨_, cb (wrap64 ((wrap64 (256 * q)) + d)), by rw [if_neg (by decide), if_neg (by decide), if_pos rfl, hq, Option.bind_some, hd]; rfl⟩
/-- What a pixel's sums give. -/
def pixIs (s : Sm) (p : S48) : Prop := Ev (fun k => warp_sums_pixel.f k s.a0 s.a1 s.a2 s.a3 s.a4 s.a5 s.a6 4294967296) (p.f0, p.f1, p.f2, p.f3, s.a0, s.a1, s.a2, s.a3, s.a4, s.a5, s.a6)
theorem pix_tot (s : Sm) : ∃ p, pixIs s p ∧ (0 ≤ p.f0 ∧ p.f0 ≤ 65535) ∧ (0 ≤ p.f1 ∧ p.f1 ≤ 65535) ∧ (0 ≤ p.f2 ∧ p.f2 ≤ 65535) ∧ (0 ≤ p.f3 ∧ p.f3 ≤ 65535) := by
  have cb : ∀ x : Int, 0 ≤ mn 65535 (mx x 0) ∧ mn 65535 (mx x 0) ≤ 65535 := by intro x; unfold mn mx; split <;> split <;> omega
  have fin : ∀ p : S48, warp_sums_pixel.f 1 s.a0 s.a1 s.a2 s.a3 s.a4 s.a5 s.a6 4294967296 = some (p.f0, p.f1, p.f2, p.f3, s.a0, s.a1, s.a2, s.a3, s.a4, s.a5, s.a6) → pixIs s p := fun p h => .of (warp_sums_pixel.mono _ _ _ _ _ _ _ _) h
  by_cases c : s.a0 ≤ 0
  · exact ⟨z48, fin z48 (by unfold warp_sums_pixel.f; rw [if_pos c]; rfl), ⟨by decide, by decide⟩, ⟨by decide, by decide⟩, ⟨by decide, by decide⟩, ⟨by decide, by decide⟩⟩
  obtain ⟨a, ha⟩ := div1 s.a0 4294967296
  by_cases d : mn 65535 (mx a 0) = 0
  · refine ⟨z48, fin z48 ?_, ⟨by decide, by decide⟩, ⟨by decide, by decide⟩, ⟨by decide, by decide⟩, ⟨by decide, by decide⟩⟩
    unfold warp_sums_pixel.f num_Clamp.f
    rw [if_neg c, ha, Option.bind_some, Option.bind_some, if_pos d]
    rfl
  obtain ⟨r, hr, er⟩ := chan1 s 0 (.inl rfl)
  obtain ⟨g, hg, eg⟩ := chan1 s 1 (.inr (.inl rfl))
  obtain ⟨b, hb, eb⟩ := chan1 s 2 (.inr (.inr rfl))
  refine ⟨⟨r, g, b, mn 65535 (mx a 0)⟩, fin _ ?_, hr, hg, hb, cb a⟩
  unfold warp_sums_pixel.f num_Clamp.f
  rw [if_neg c, ha, Option.bind_some, Option.bind_some, if_neg d, er, Option.bind_some]
  dsimp only
  rw [eg, Option.bind_some]
  dsimp only
  rw [eb, Option.bind_some]
end Go.Proofs.Ytnfbabmceddciaa.Pure
