/- imageeditor/imageeditorlaw14.SampleParts: for every input the law returns true, and each argument reads behind the call as it read before. No condition of ours: the row as it was given. Written by rowgen.py, a program of this session, out of the contract of the law's code (imageeditorlaw14_SampleParts.calls) and the pure statement SampleParts. -/
import Derived.Test.YtapdifpmijgkcaaRows
import Derived.Test.YtapdifpmijgkcaaG17
import Derived.Test.YtapdifpmijgkcaaPureSampleParts
import Derived.Test.YtapdifpmijgkcaaXRead
import Derived.WalkKit
import Derived.ProofKit
import Derived.OpenShut
import Derived.ShutString
import Derived.ChangeOld
import Derived.Below
import Derived.SizedLaws
namespace Go.Proofs.Ytapdifpmijgkcaa.sampleParts
open Go.ChangeShapes Go.WideShapes Go.ChangeAt Go.RowKit Go.Proofs.YtapdifpmijgkcaaW.PrintWords Go.Proofs.Ytapdifpmijgkcaa.G
open Go.ChangeMaps (open_string shut_string)
theorem own : ownKnob Try.prog.godebug = none := by kernel_rfl
theorem laidOut : laidOutB Try.prog = true := by kernel_rfl
theorem reads37 : Reads Try.prog 37 k37 (fun x => (Lit.int .i64 x.f0).wf = true ∧ (Lit.int .i64 x.f1).wf = true ∧ (Lit.int .i64 x.f2).wf = true ∧ (Lit.int .i64 x.f3).wf = true) := Reads.iso (f := fun x : S37 => (x.f0, x.f1, x.f2, x.f3)) (fun a => (⟨a.1, a.2.1, a.2.2.1, a.2.2.2⟩ : S37)) (fun _ => rfl) (Reads.struct4 (P := Try.prog) (t := 37) (d0 := (Kd.int .i64)) (d1 := (Kd.int .i64)) (d2 := (Kd.int .i64)) (d3 := (Kd.int .i64)) Try.underlying37  (by kernel_rfl) rfl rfl rfl rfl (by kernel_rfl) (by kernel_rfl) (by kernel_rfl) (by kernel_rfl) (Reads.int Try.underlying3) (Reads.int Try.underlying3) (Reads.int Try.underlying3) (Reads.int Try.underlying3))
theorem reads22 : Reads Try.prog 22 (Kd.slice 37 k37) (fun x => (x.length ≤ maxLen ∧ ∀ yx ∈ x, (Lit.int .i64 yx.f0).wf = true ∧ (Lit.int .i64 yx.f1).wf = true ∧ (Lit.int .i64 yx.f2).wf = true ∧ (Lit.int .i64 yx.f3).wf = true)) := Reads.slice (P := Try.prog) (t := 22) (e := 37) (d := k37) Try.underlying22 (by kernel_rfl) reads37 37
theorem reads24 : Reads Try.prog 24 (Kd.pair (Kd.int .i64) (Kd.pair (Kd.int .i64) (Kd.slice 37 k37))) (fun x => (Lit.int .i64 x.1).wf = true ∧ (Lit.int .i64 x.2.1).wf = true ∧ (x.2.2.length ≤ maxLen ∧ ∀ yx ∈ x.2.2, (Lit.int .i64 yx.f0).wf = true ∧ (Lit.int .i64 yx.f1).wf = true ∧ (Lit.int .i64 yx.f2).wf = true ∧ (Lit.int .i64 yx.f3).wf = true)) := Reads.struct3 (P := Try.prog) (t := 24) (d0 := (Kd.int .i64)) (d1 := (Kd.int .i64)) (d2 := (Kd.slice 37 k37)) Try.underlying24  (by kernel_rfl) rfl rfl rfl (by kernel_rfl) (by kernel_rfl) (by kernel_rfl) (Reads.int Try.underlying3) (Reads.int Try.underlying3) reads22
theorem reads32 : Reads Try.prog 32 (Kd.pair (Kd.int .i64) (Kd.pair (Kd.int .i64) (Kd.pair (Kd.int .i64) (Kd.pair (Kd.int .i64) (Kd.pair (Kd.int .i64) (Kd.int .i64)))))) (fun x => (Lit.int .i64 x.1).wf = true ∧ (Lit.int .i64 x.2.1).wf = true ∧ (Lit.int .i64 x.2.2.1).wf = true ∧ (Lit.int .i64 x.2.2.2.1).wf = true ∧ (Lit.int .i64 x.2.2.2.2.1).wf = true ∧ (Lit.int .i64 x.2.2.2.2.2).wf = true) := Reads.struct6 (P := Try.prog) (t := 32) (d0 := (Kd.int .i64)) (d1 := (Kd.int .i64)) (d2 := (Kd.int .i64)) (d3 := (Kd.int .i64)) (d4 := (Kd.int .i64)) (d5 := (Kd.int .i64)) Try.underlying32  (by kernel_rfl) rfl rfl rfl rfl rfl rfl (by kernel_rfl) (by kernel_rfl) (by kernel_rfl) (by kernel_rfl) (by kernel_rfl) (by kernel_rfl) (Reads.int Try.underlying3) (Reads.int Try.underlying3) (Reads.int Try.underlying3) (Reads.int Try.underlying3) (Reads.int Try.underlying3) (Reads.int Try.underlying3)
theorem reads27 : Reads Try.prog 27 (Kd.pair (Kd.int .i64) (Kd.pair (Kd.int .i64) (Kd.pair (Kd.int .i64) (Kd.int .i64)))) (fun x => (Lit.int .i64 x.1).wf = true ∧ (Lit.int .i64 x.2.1).wf = true ∧ (Lit.int .i64 x.2.2.1).wf = true ∧ (Lit.int .i64 x.2.2.2).wf = true) := Reads.struct4 (P := Try.prog) (t := 27) (d0 := (Kd.int .i64)) (d1 := (Kd.int .i64)) (d2 := (Kd.int .i64)) (d3 := (Kd.int .i64)) Try.underlying27  (by kernel_rfl) rfl rfl rfl rfl (by kernel_rfl) (by kernel_rfl) (by kernel_rfl) (by kernel_rfl) (Reads.int Try.underlying3) (Reads.int Try.underlying3) (Reads.int Try.underlying3) (Reads.int Try.underlying3)
set_option maxRecDepth 100000 in
theorem lifted (os : Os) (started : os.Started) (H : Type) (enc : TypeId × Value → H) :
    ReturnsInHanded {} Try.checked os 4 .any (Rows.samplePartsSpec.pre6 enc Try.prog Try.f4 Rows.samplePartsRow.domain false) (Rows.samplePartsSpec.post enc Try.prog Try.f4 false true false false) := by
  refine returnsInHanded_of_change_sized (C := Try.checked) own started (by kernel_rfl) Try.func4
    (ChangeSpec.witness6 (enc := enc) (C := Try.checked) false ⟨#[], #[.agg #[.int .i64 0, .int .i64 0, .slice none 0 0], .agg #[.int .i64 0, .int .i64 0, .int .i64 0, .int .i64 0, .int .i64 0, .int .i64 0], .int .i64 0, .agg #[.int .i64 0, .int .i64 0, .int .i64 0, .int .i64 0], .agg #[.int .i64 0, .int .i64 0, .int .i64 0, .int .i64 0]], []⟩ 8 (by kernel_rfl) (by kernel_rfl) (by kernel_rfl) (by kernel_rfl)) ?_
  intro W base args ds gs before hval0 hW hcnd hsz0 _
  have hsz : (DataW.weightsEach Try.prog (Try.f4.params.toList ++ Rows.samplePartsSpec.plain.varTypes Try.prog) (ds ++ gs)).all (· ≤ reachBytes) = true := hsz0
  have hval : ∀ (j : Nat) t v, Try.f4.params[j]? = some t → args[j]? = some v → Value.okWide Try.prog W .any base t v := hval0
  have hW' := hW
  obtain ⟨p, q, hA0, hV, rfl, hfz, hnd⟩ := hW
  have hA : DataW.TrodAll enc Try.prog W 0 (fun _ => true) true Try.f4.params.toList args.toList ds p := hA0
  rw [Try.params4] at hA hval hsz
  obtain ⟨v0, vs0, d0, ds0, p0, q0, hargs, rfl, rfl, h0, r0⟩ := trodAll_cons hA
  obtain ⟨v1, vs1, d1, ds1, p1, q1, rfl, rfl, rfl, h1, r1⟩ := trodAll_cons r0
  obtain ⟨v2, vs2, d2, ds2, p2, q2, rfl, rfl, rfl, h2, r2⟩ := trodAll_cons r1
  obtain ⟨v3, vs3, d3, ds3, p3, q3, rfl, rfl, rfl, h3, r3⟩ := trodAll_cons r2
  obtain ⟨v4, vs4, d4, ds4, p4, q4, rfl, rfl, rfl, h4, r4⟩ := trodAll_cons r3
  obtain ⟨rfl, rfl, rfl⟩ := trodAll_nil r4
  obtain rfl : args = #[v0, v1, v2, v3, v4] := by cases args; simp_all
  obtain ⟨rfl, rfl⟩ := trodVars_none hV
  have k0 := h0
  have lt0 : ∀ x ∈ p0, x.block < W.heap.size := by obtain ⟨m, hm⟩ := k0; exact DataW.trod_lt m _ _ _ hm
  obtain ⟨a0, L0, hK0, w0, hv0⟩ := Reads.agg reads24 Try.underlying24 (hval 0 24 v0 rfl rfl) h0
  obtain ⟨_, _, rfl, rfl, ⟨_, _, rfl, rfl, ⟨A0_2, c0_2, rfl, hc0_2, hr0_2⟩⟩⟩ := hK0
  obtain rfl : v0 = .agg #[.int .i64 (a0.1), .int .i64 (a0.2.1), .slice A0_2 (a0.2.2).length c0_2] := hv0
  have k1 := h1
  have lt1 : ∀ x ∈ p1, x.block < W.heap.size := by obtain ⟨m, hm⟩ := k1; exact DataW.trod_lt m _ _ _ hm
  obtain ⟨a1, L1, hK1, w1, hv1⟩ := Reads.agg reads32 Try.underlying32 (hval 1 32 v1 rfl rfl) h1
  obtain ⟨_, _, rfl, rfl, ⟨_, _, rfl, rfl, ⟨_, _, rfl, rfl, ⟨_, _, rfl, rfl, ⟨_, _, rfl, rfl, rfl⟩⟩⟩⟩⟩ := hK1
  obtain rfl : v1 = .agg #[.int .i64 (a1.1), .int .i64 (a1.2.1), .int .i64 (a1.2.2.1), .int .i64 (a1.2.2.2.1), .int .i64 (a1.2.2.2.2.1), .int .i64 (a1.2.2.2.2.2)] := hv1
  have k2 := h2
  have lt2 : ∀ x ∈ p2, x.block < W.heap.size := by obtain ⟨m, hm⟩ := k2; exact DataW.trod_lt m _ _ _ hm
  obtain ⟨a2, rfl, rfl, rfl, w2⟩ := open_int Try.underlying3 (hval 2 3 v2 rfl rfl) h2
  have k3 := h3
  have lt3 : ∀ x ∈ p3, x.block < W.heap.size := by obtain ⟨m, hm⟩ := k3; exact DataW.trod_lt m _ _ _ hm
  obtain ⟨a3, L3, hK3, w3, hv3⟩ := Reads.agg reads27 Try.underlying27 (hval 3 27 v3 rfl rfl) h3
  obtain ⟨_, _, rfl, rfl, ⟨_, _, rfl, rfl, ⟨_, _, rfl, rfl, rfl⟩⟩⟩ := hK3
  obtain rfl : v3 = .agg #[.int .i64 (a3.1), .int .i64 (a3.2.1), .int .i64 (a3.2.2.1), .int .i64 (a3.2.2.2)] := hv3
  have k4 := h4
  have lt4 : ∀ x ∈ p4, x.block < W.heap.size := by obtain ⟨m, hm⟩ := k4; exact DataW.trod_lt m _ _ _ hm
  obtain ⟨a4, L4, hK4, w4, hv4⟩ := Reads.agg reads27 Try.underlying27 (hval 4 27 v4 rfl rfl) h4
  obtain ⟨_, _, rfl, rfl, ⟨_, _, rfl, rfl, ⟨_, _, rfl, rfl, rfl⟩⟩⟩ := hK4
  obtain rfl : v4 = .agg #[.int .i64 (a4.1), .int .i64 (a4.2.1), .int .i64 (a4.2.2.1), .int .i64 (a4.2.2.2)] := hv4
  clear hA0 hval0 hsz0 hsz
  obtain ⟨k, hk⟩ := Pure.SampleParts (a0.1) (a0.2.1) (a0.2.2) (a1.1) (a1.2.1) (a1.2.2.1) (a1.2.2.2.1) (a1.2.2.2.2.1) (a1.2.2.2.2.2) a2 (a3.1) (a3.2.1) (a3.2.2.1) (a3.2.2.2) (a4.1) (a4.2.1) (a4.2.2.1) (a4.2.2.2) w0 w1 w2 w3 w4
  refine (imageeditorlaw14_SampleParts.callsT k (a0.1) (a0.2.1) A0_2 c0_2 (a0.2.2) (a1.1) (a1.2.1) (a1.2.2.1) (a1.2.2.2.1) (a1.2.2.2.2.1) (a1.2.2.2.2.2) a2 (a3.1) (a3.2.1) (a3.2.2.1) (a3.2.2.2) (a4.1) (a4.2.1) (a4.2.2.1) (a4.2.2.2) true W hr0_2 hc0_2 rfl hk).mono fun e W' ⟨he, bel⟩ => ?_
  subst he
  exact ⟨_, rfl, _, _, _, [], _, [], hW', trodAll_mk1 (shut_bool Try.underlying4 _), (trodAll_cons_mk (Below.trod laidOut (by kernel_rfl) (of_decide_eq_true (by kernel_rfl)) k0 bel lt0) (trodAll_cons_mk (Below.trod laidOut (by kernel_rfl) (of_decide_eq_true (by kernel_rfl)) k1 bel lt1) (trodAll_cons_mk (Below.trod laidOut (by kernel_rfl) (of_decide_eq_true (by kernel_rfl)) k2 bel lt2) (trodAll_cons_mk (Below.trod laidOut (by kernel_rfl) (of_decide_eq_true (by kernel_rfl)) k3 bel lt3) (trodAll_cons_mk (Below.trod laidOut (by kernel_rfl) (of_decide_eq_true (by kernel_rfl)) k4 bel lt4) trodAll_mk0))))), rfl, bel.frame _, fun h => by cases h⟩
theorem over : Rows.samplePartsRow.holds Try.pinned (OpenSpec.ofChange Rows.samplePartsSpec) :=
  OpenClaim.holds_of_wide 4 Try.f4 rfl rfl rfl rfl rfl rfl rfl ⟨rfl, rfl, rfl, rfl, rfl⟩ rfl rfl rfl rfl rfl (by kernel_rfl) Try.func4 (by kernel_rfl)
    (of_decide_eq_true (by kernel_rfl)) (by unfold Func.isWrapper; first | (rw [if_pos (by decide +kernel)]; kernel_rfl) | (rw [if_neg (by decide +kernel)]; exact ⟨rfl, rfl⟩))
    (fun os started H enc _ => lifted os started H enc)
theorem proved : Rows.SamplePartsSaid := over
#print axioms proved
end Go.Proofs.Ytapdifpmijgkcaa.sampleParts
namespace Go.Proofs.Ytapdifpmijgkcaa
/-- The row, under a short name, for the claim. -/
theorem sampleParts_holds : Rows.SamplePartsSaid := sampleParts.proved
end Go.Proofs.Ytapdifpmijgkcaa
