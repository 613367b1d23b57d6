/- imageeditor/imageeditorlaw11.RasterTurns: for every input the law returns true, and each argument reads behind the call as it read before. No condition of ours: the row as it was given. Written by rowgen.py, a program of this session, out of the contract of the law's code (imageeditorlaw11_RasterTurns.calls) and the pure statement RasterTurns. -/
import Derived.Test.YtjepbimgddgijaaRows
import Derived.Test.YtjepbimgddgijaaG25
import Derived.Test.YtjepbimgddgijaaPureRasterTurns
import Derived.Test.YtjepbimgddgijaaXRead
import Derived.WalkKit
import Derived.ProofKit
import Derived.OpenShut
import Derived.ShutString
import Derived.ChangeOld
import Derived.Below
import Derived.SizedLaws
namespace Go.Proofs.Ytjepbimgddgijaa.rasterTurns
open Go.ChangeShapes Go.WideShapes Go.ChangeAt Go.RowKit Go.Proofs.YtjepbimgddgijaaW.PrintWords Go.Proofs.Ytjepbimgddgijaa.G
open Go.ChangeMaps (open_string shut_string)
theorem own : ownKnob Try.prog.godebug = none := by kernel_rfl
theorem laidOut : laidOutB Try.prog = true := by kernel_rfl
theorem reads26 : Reads Try.prog 26 k26 (fun x => (Lit.int .i64 x.f0).wf = true ∧ (Lit.int .i64 x.f1).wf = true ∧ (Lit.int .i64 x.f2).wf = true ∧ (Lit.int .i64 x.f3).wf = true) := Reads.iso (f := fun x : S26 => (x.f0, x.f1, x.f2, x.f3)) (fun a => (⟨a.1, a.2.1, a.2.2.1, a.2.2.2⟩ : S26)) (fun _ => rfl) (Reads.struct4 (P := Try.prog) (t := 26) (d0 := (Kd.int .i64)) (d1 := (Kd.int .i64)) (d2 := (Kd.int .i64)) (d3 := (Kd.int .i64)) Try.underlying26  (by kernel_rfl) rfl rfl rfl rfl (by kernel_rfl) (by kernel_rfl) (by kernel_rfl) (by kernel_rfl) (Reads.int Try.underlying3) (Reads.int Try.underlying3) (Reads.int Try.underlying3) (Reads.int Try.underlying3))
theorem reads22 : Reads Try.prog 22 (Kd.slice 26 k26) (fun x => (x.length ≤ maxLen ∧ ∀ yx ∈ x, (Lit.int .i64 yx.f0).wf = true ∧ (Lit.int .i64 yx.f1).wf = true ∧ (Lit.int .i64 yx.f2).wf = true ∧ (Lit.int .i64 yx.f3).wf = true)) := Reads.slice (P := Try.prog) (t := 22) (e := 26) (d := k26) Try.underlying22 (by kernel_rfl) reads26 26
theorem reads24 : Reads Try.prog 24 k24 (fun x => (Lit.int .i64 x.f0).wf = true ∧ (Lit.int .i64 x.f1).wf = true ∧ (x.f2.length ≤ maxLen ∧ ∀ yx ∈ x.f2, (Lit.int .i64 yx.f0).wf = true ∧ (Lit.int .i64 yx.f1).wf = true ∧ (Lit.int .i64 yx.f2).wf = true ∧ (Lit.int .i64 yx.f3).wf = true)) := Reads.iso (f := fun x : S24 => (x.f0, x.f1, x.f2)) (fun a => (⟨a.1, a.2.1, a.2.2⟩ : S24)) (fun _ => rfl) (Reads.struct3 (P := Try.prog) (t := 24) (d0 := (Kd.int .i64)) (d1 := (Kd.int .i64)) (d2 := (Kd.slice 26 k26)) Try.underlying24  (by kernel_rfl) rfl rfl rfl (by kernel_rfl) (by kernel_rfl) (by kernel_rfl) (Reads.int Try.underlying3) (Reads.int Try.underlying3) reads22)
set_option maxRecDepth 100000 in
theorem lifted (os : Os) (started : os.Started) (H : Type) (enc : TypeId × Value → H) :
    ReturnsInHanded {} Try.checked os 11 .any (Rows.rasterTurnsSpec.pre6 enc Try.prog Try.f11 Rows.rasterTurnsRow.domain false) (Rows.rasterTurnsSpec.post enc Try.prog Try.f11 false true false false) := by
  refine returnsInHanded_of_change_sized (C := Try.checked) own started (by kernel_rfl) Try.func11
    (ChangeSpec.witness6 (enc := enc) (C := Try.checked) false ⟨#[], #[.agg #[.int .i64 0, .int .i64 0, .slice none 0 0]], []⟩ 8 (by kernel_rfl) (by kernel_rfl) (by kernel_rfl) (by kernel_rfl)) ?_
  intro W base args ds gs before hval0 hW hcnd hsz0 _
  have hsz : (DataW.weightsEach Try.prog (Try.f11.params.toList ++ Rows.rasterTurnsSpec.plain.varTypes Try.prog) (ds ++ gs)).all (· ≤ reachBytes) = true := hsz0
  have hval : ∀ (j : Nat) t v, Try.f11.params[j]? = some t → args[j]? = some v → Value.okWide Try.prog W .any base t v := hval0
  have hW' := hW
  obtain ⟨p, q, hA0, hV, rfl, hfz, hnd⟩ := hW
  have hA : DataW.TrodAll enc Try.prog W 0 (fun _ => true) true Try.f11.params.toList args.toList ds p := hA0
  rw [Try.params11] at hA hval hsz
  obtain ⟨v0, vs0, d0, ds0, p0, q0, hargs, rfl, rfl, h0, r0⟩ := trodAll_cons hA
  obtain ⟨rfl, rfl, rfl⟩ := trodAll_nil r0
  obtain rfl : args = #[v0] := by cases args; simp_all
  obtain ⟨rfl, rfl⟩ := trodVars_none hV
  have k0 := h0
  have lt0 : ∀ x ∈ p0, x.block < W.heap.size := by obtain ⟨m, hm⟩ := k0; exact DataW.trod_lt m _ _ _ hm
  obtain ⟨a0, L0, hK0, w0, hv0⟩ := Reads.agg reads24 Try.underlying24 (hval 0 24 v0 rfl rfl) h0
  obtain ⟨_, _, rfl, rfl, ⟨_, _, rfl, rfl, ⟨A0_2, c0_2, rfl, hc0_2, hr0_2⟩⟩⟩ := hK0
  obtain rfl : v0 = .agg #[.int .i64 (a0.f0), .int .i64 (a0.f1), .slice A0_2 (a0.f2).length c0_2] := hv0
  clear hA0 hval0 hsz0 hsz
  obtain ⟨k, hk⟩ := Pure.RasterTurns (a0.f0) (a0.f1) (a0.f2) w0
  refine (imageeditorlaw11_RasterTurns.callsT k (a0.f0) (a0.f1) A0_2 c0_2 (a0.f2) true W hr0_2 hc0_2 rfl hk).mono fun e W' ⟨he, bel⟩ => ?_
  subst he
  exact ⟨_, rfl, _, _, _, [], _, [], hW', trodAll_mk1 (shut_bool Try.underlying4 _), (trodAll_cons_mk (Below.trod laidOut (by kernel_rfl) (of_decide_eq_true (by kernel_rfl)) k0 bel lt0) trodAll_mk0), rfl, bel.frame _, fun h => by cases h⟩
theorem over : Rows.rasterTurnsRow.holds Try.pinned (OpenSpec.ofChange Rows.rasterTurnsSpec) :=
  OpenClaim.holds_of_wide 11 Try.f11 rfl rfl rfl rfl rfl rfl rfl ⟨rfl, rfl, rfl, rfl, rfl⟩ rfl rfl rfl rfl rfl (by kernel_rfl) Try.func11 (by kernel_rfl)
    (of_decide_eq_true (by kernel_rfl)) (by unfold Func.isWrapper; first | (rw [if_pos (by decide +kernel)]; kernel_rfl) | (rw [if_neg (by decide +kernel)]; exact ⟨rfl, rfl⟩))
    (fun os started H enc _ => lifted os started H enc)
theorem proved : Rows.RasterTurnsSaid := over
#print axioms proved
end Go.Proofs.Ytjepbimgddgijaa.rasterTurns
namespace Go.Proofs.Ytjepbimgddgijaa
/-- The row, under a short name, for the claim. -/
theorem rasterTurns_holds : Rows.RasterTurnsSaid := rasterTurns.proved
end Go.Proofs.Ytjepbimgddgijaa
