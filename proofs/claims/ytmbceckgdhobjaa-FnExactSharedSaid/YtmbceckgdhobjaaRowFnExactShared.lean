/- The law FnExactShared holds of the program for every input: the row, out of the pure statement and the printed contract of the law's function. -/
import Derived.Test.YtmbceckgdhobjaaRows
import Derived.Test.YtmbceckgdhobjaaOpenFnExactShared
import Derived.Test.YtmbceckgdhobjaaPureFnExactShared
import Derived.WalkKit
import Derived.ProofKit
import Derived.OpenShut
import Derived.ShutString
import Derived.ChangeOld
import Derived.Below
import Derived.SizedLaws
namespace Go.Proofs.Ytmbceckgdhobjaa.fnExactShared
open Go.ChangeShapes Go.WideShapes Go.ChangeAt Go.RowKit Go.Proofs.Ytmbceckgdhobjaa.QFnExactShared Go.Proofs.YtmbceckgdhobjaaW.PrintWords Go.Proofs.Ytmbceckgdhobjaa.Base Go.Proofs.Ytmbceckgdhobjaa.OpenFnExactShared
open Go.ChangeMaps (open_string shut_string)
set_option linter.unusedVariables false
theorem own : ownKnob Try.prog.godebug = none := by kernel_rfl
theorem laidOut : laidOutB Try.prog = true := by kernel_rfl
set_option maxRecDepth 100000 in
theorem lifted (os : Os) (started : os.Started) (H : Type) (enc : TypeId × Value → H) :
    ReturnsInHanded {} Try.checked os 4 .any (Rows.fnExactSharedSpec.pre6 enc Try.prog Try.f4 Rows.fnExactSharedRow.domain false) (Rows.fnExactSharedSpec.post enc Try.prog Try.f4 false true false false) := by
  refine returnsInHanded_of_change_sized (C := Try.checked) own started (by kernel_rfl) Try.func4
    (ChangeSpec.witness6 (enc := enc) (C := Try.checked) false ⟨#[], #[.agg #[.int .i64 0, .int .i64 0, .slice none 0 0], .agg #[.int .i64 0, .int .i64 0, .slice none 0 0]], []⟩ 8 (by kernel_rfl) (by kernel_rfl) (by kernel_rfl) (by kernel_rfl)) ?_
  intro W base args ds gs before hval0 hW hcnd hsz0 _
  have hsz : (DataW.weightsEach Try.prog (Try.f4.params.toList ++ Rows.fnExactSharedSpec.plain.varTypes Try.prog) (ds ++ gs)).all (· ≤ reachBytes) = true := hsz0
  have hval : ∀ (j : Nat) t v, Try.f4.params[j]? = some t → args[j]? = some v → Value.okWide Try.prog W .any base t v := hval0
  have hW' := hW
  obtain ⟨p, q, hA0, hV, rfl, hfz, hnd⟩ := hW
  have hA : DataW.TrodAll enc Try.prog W 0 (fun _ => true) true Try.f4.params.toList args.toList ds p := hA0
  rw [Try.params4] at hA hval hsz
  obtain ⟨v0, vs0, d0, ds0, p0, q0, hargs, rfl, rfl, h0, r0⟩ := trodAll_cons hA
  obtain ⟨v1, vs1, d1, ds1, p1, q1, rfl, rfl, rfl, h1, r1⟩ := trodAll_cons r0
  obtain ⟨rfl, rfl, rfl⟩ := trodAll_nil r1
  obtain rfl : args = #[v0, v1] := by cases args; simp_all
  obtain ⟨rfl, rfl⟩ := trodVars_none hV
  have k0 := h0
  have lt0 : ∀ x ∈ p0, x.block < W.heap.size := by obtain ⟨m, hm⟩ := k0; exact DataW.trod_lt m _ _ _ hm
  obtain ⟨cs0, rfl, hs0⟩ := okWide_struct Try.underlying34 (hval 0 34 v0 rfl rfl)
  obtain ⟨x0, K0, g0⟩ := (by obtain ⟨fuel, hf⟩ := h0; exact ot34.op hf : ∃ x, ((Kd.pair (Kd.int .i64) (Kd.pair (Kd.int .i64) (Kd.slice 47 k47)))).K W x cs0.toList ∧ (fun x : (Int) × (Int) × (List (S47)) => ((Lit.int .i64 x.1).wf = true) ∧ ((Lit.int .i64 x.2.1).wf = true) ∧ ((x.2.2 : List (S47)).length ≤ 9223372036854775807 ∧ ∀ y : S47, y ∈ x.2.2 → ((Lit.int .i64 y.f0).wf = true) ∧ ((Lit.int .i64 y.f1).wf = true) ∧ (y.f2.size ≤ 9223372036854775807))) x)
  obtain ⟨_, _, e0, rfl, ⟨_, _, rfl, rfl, ⟨A0_2, c0_2, rfl, hc0_2, hr0_2⟩⟩⟩ := K0
  obtain rfl : cs0 = #[.int .i64 x0.1, .int .i64 x0.2.1, .slice A0_2 x0.2.2.length c0_2] := Array.ext' (by simpa using e0)
  have k1 := h1
  have lt1 : ∀ x ∈ p1, x.block < W.heap.size := by obtain ⟨m, hm⟩ := k1; exact DataW.trod_lt m _ _ _ hm
  obtain ⟨cs1, rfl, hs1⟩ := okWide_struct Try.underlying34 (hval 1 34 v1 rfl rfl)
  obtain ⟨x1, K1, g1⟩ := (by obtain ⟨fuel, hf⟩ := h1; exact ot34.op hf : ∃ x, ((Kd.pair (Kd.int .i64) (Kd.pair (Kd.int .i64) (Kd.slice 47 k47)))).K W x cs1.toList ∧ (fun x : (Int) × (Int) × (List (S47)) => ((Lit.int .i64 x.1).wf = true) ∧ ((Lit.int .i64 x.2.1).wf = true) ∧ ((x.2.2 : List (S47)).length ≤ 9223372036854775807 ∧ ∀ y : S47, y ∈ x.2.2 → ((Lit.int .i64 y.f0).wf = true) ∧ ((Lit.int .i64 y.f1).wf = true) ∧ (y.f2.size ≤ 9223372036854775807))) x)
  obtain ⟨_, _, e1, rfl, ⟨_, _, rfl, rfl, ⟨A1_2, c1_2, rfl, hc1_2, hr1_2⟩⟩⟩ := K1
  obtain rfl : cs1 = #[.int .i64 x1.1, .int .i64 x1.2.1, .slice A1_2 x1.2.2.length c1_2] := Array.ext' (by simpa using e1)
  clear hA0 hval0 hsz0 hsz
  obtain ⟨k, hk⟩ := Pure.FnExactShared x0.1 x0.2.1 x0.2.2 x1.1 x1.2.1 x1.2.2 g0.1 g0.2.1 g0.2.2 g1.1 g1.2.1 g1.2.2
  refine (laws_FnExactShared.calls k (x0.1) (x0.2.1) A0_2 c0_2 (x0.2.2) (x1.1) (x1.2.1) A1_2 c1_2 (x1.2.2) true W hr0_2 hc0_2 hr1_2 hc1_2 hk).mono fun e W' ⟨he, bel⟩ => ?_
  subst he
  exact ⟨_, rfl, _, _, _, [], _, [], hW', trodAll_mk1 (shut_bool Try.underlying4 _), (trodAll_cons_mk (Below.trod laidOut (by kernel_rfl) (of_decide_eq_true (by kernel_rfl)) k0 bel lt0) (trodAll_cons_mk (Below.trod laidOut (by kernel_rfl) (of_decide_eq_true (by kernel_rfl)) k1 bel lt1) trodAll_mk0)), rfl, bel.frame _, fun h => by cases h⟩
theorem over : Rows.fnExactSharedRow.holds Try.pinned (OpenSpec.ofChange Rows.fnExactSharedSpec) :=
  OpenClaim.holds_of_wide 4 Try.f4 rfl rfl rfl rfl rfl rfl rfl ⟨rfl, rfl, rfl, rfl, rfl⟩ rfl rfl rfl rfl rfl (by kernel_rfl) Try.func4 (by kernel_rfl)
    (of_decide_eq_true (by kernel_rfl)) (by unfold Func.isWrapper; first | (rw [if_pos (by decide +kernel)]; kernel_rfl) | (rw [if_neg (by decide +kernel)]; exact ⟨rfl, rfl⟩))
    (fun os started H enc _ => lifted os started H enc)
theorem proved : Rows.FnExactSharedSaid := over
#print axioms proved
end Go.Proofs.Ytmbceckgdhobjaa.fnExactShared
namespace Go.Proofs.Ytmbceckgdhobjaa
/-- The row, under a short name, for the claim. -/
theorem fnExactShared_holds : Rows.FnExactSharedSaid := fnExactShared.proved
end Go.Proofs.Ytmbceckgdhobjaa
