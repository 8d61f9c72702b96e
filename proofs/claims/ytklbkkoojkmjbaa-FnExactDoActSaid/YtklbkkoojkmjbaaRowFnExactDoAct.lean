/- The law FnExactDoAct holds of the program for every input: the row, out of the pure statement and the printed contract of the law's function. -/
import Derived.Test.YtklbkkoojkmjbaaRows
import Derived.Test.YtklbkkoojkmjbaaOpenFnExactDoAct
import Derived.Test.YtklbkkoojkmjbaaPureFnExactDoAct
import Derived.WalkKit
import Derived.ProofKit
import Derived.OpenShut
import Derived.ShutString
import Derived.ChangeOld
import Derived.Below
import Derived.SizedLaws
namespace Go.Proofs.Ytklbkkoojkmjbaa.fnExactDoAct
open Go.ChangeShapes Go.WideShapes Go.ChangeAt Go.RowKit Go.Proofs.Ytklbkkoojkmjbaa.QFnExactDoAct Go.Proofs.YtklbkkoojkmjbaaW.PrintWords Go.Proofs.Ytklbkkoojkmjbaa.Base Go.Proofs.Ytklbkkoojkmjbaa.OpenFnExactDoAct
open Go.ChangeMaps (open_string shut_string)
set_option linter.unusedVariables false
theorem own : ownKnob Try.prog.godebug = none := by kernel_rfl
theorem laidOut : laidOutB Try.prog = true := by kernel_rfl
set_option maxRecDepth 100000 in
theorem lifted (os : Os) (started : os.Started) (H : Type) (enc : TypeId × Value → H) :
    ReturnsInHanded {} Try.checked os 3 .any (Rows.fnExactDoActSpec.pre6 enc Try.prog Try.f3 Rows.fnExactDoActRow.domain false) (Rows.fnExactDoActSpec.post enc Try.prog Try.f3 false true false false) := by
  refine returnsInHanded_of_change_sized (C := Try.checked) own started (by kernel_rfl) Try.func3
    (ChangeSpec.witness6 (enc := enc) (C := Try.checked) false ⟨#[], #[.agg #[.slice none 0 0], .agg #[.int .i64 0, .string ByteArray.empty, .string ByteArray.empty, .string ByteArray.empty]], []⟩ 8 (by kernel_rfl) (by kernel_rfl) (by kernel_rfl) (by kernel_rfl)) ?_
  intro W base args ds gs before hval0 hW hcnd hsz0 _
  have hsz : (DataW.weightsEach Try.prog (Try.f3.params.toList ++ Rows.fnExactDoActSpec.plain.varTypes Try.prog) (ds ++ gs)).all (· ≤ reachBytes) = true := hsz0
  have hval : ∀ (j : Nat) t v, Try.f3.params[j]? = some t → args[j]? = some v → Value.okWide Try.prog W .any base t v := hval0
  have hW' := hW
  obtain ⟨p, q, hA0, hV, rfl, hfz, hnd⟩ := hW
  have hA : DataW.TrodAll enc Try.prog W 0 (fun _ => true) true Try.f3.params.toList args.toList ds p := hA0
  rw [Try.params3] at hA hval hsz
  obtain ⟨v0, vs0, d0, ds0, p0, q0, hargs, rfl, rfl, h0, r0⟩ := trodAll_cons hA
  obtain ⟨v1, vs1, d1, ds1, p1, q1, rfl, rfl, rfl, h1, r1⟩ := trodAll_cons r0
  obtain ⟨rfl, rfl, rfl⟩ := trodAll_nil r1
  obtain rfl : args = #[v0, v1] := by cases args; simp_all
  obtain ⟨rfl, rfl⟩ := trodVars_none hV
  have k0 := h0
  have lt0 : ∀ x ∈ p0, x.block < W.heap.size := by obtain ⟨m, hm⟩ := k0; exact DataW.trod_lt m _ _ _ hm
  obtain ⟨cs0, rfl, hs0⟩ := okWide_struct Try.underlying24 (hval 0 24 v0 rfl rfl)
  obtain ⟨x0, K0, g0⟩ := (by obtain ⟨fuel, hf⟩ := h0; exact ot24.op hf : ∃ x, ((Kd.slice 85 k85)).K W x cs0.toList ∧ (fun x : (List (S85)) => ((x : List (S85)).length ≤ 9223372036854775807 ∧ ∀ y : S85, y ∈ x → (y.f0.size ≤ 9223372036854775807) ∧ (y.f1.size ≤ 9223372036854775807) ∧ ((Lit.int .i64 y.f2).wf = true))) x)
  obtain ⟨A0_0, c0_0, e0, hc0_0, hr0_0⟩ := K0
  obtain rfl : cs0 = #[.slice A0_0 x0.length c0_0] := Array.ext' (by simpa using e0)
  have k1 := h1
  have lt1 : ∀ x ∈ p1, x.block < W.heap.size := by obtain ⟨m, hm⟩ := k1; exact DataW.trod_lt m _ _ _ hm
  obtain ⟨cs1, rfl, hs1⟩ := okWide_struct Try.underlying26 (hval 1 26 v1 rfl rfl)
  obtain ⟨x1, K1, g1⟩ := (by obtain ⟨fuel, hf⟩ := h1; exact ot26.op hf : ∃ x, ((Kd.pair (Kd.int .i64) (Kd.pair Kd.string (Kd.pair Kd.string Kd.string)))).K W x cs1.toList ∧ (fun x : (Int) × (ByteArray) × (ByteArray) × (ByteArray) => ((Lit.int .i64 x.1).wf = true) ∧ (x.2.1.size ≤ 9223372036854775807) ∧ (x.2.2.1.size ≤ 9223372036854775807) ∧ (x.2.2.2.size ≤ 9223372036854775807)) x)
  obtain ⟨_, _, e1, rfl, ⟨_, _, rfl, rfl, ⟨_, _, rfl, rfl, rfl⟩⟩⟩ := K1
  obtain rfl : cs1 = #[.int .i64 x1.1, .string x1.2.1, .string x1.2.2.1, .string x1.2.2.2] := Array.ext' (by simpa using e1)
  clear hA0 hval0 hsz0 hsz
  obtain ⟨k, hk⟩ := Pure.FnExactDoAct x0 x1.1 x1.2.1 x1.2.2.1 x1.2.2.2 g0 g1.1 g1.2.1 g1.2.2.1 g1.2.2.2
  refine (laws_FnExactDoAct.calls k A0_0 c0_0 x0 (x1.1) (x1.2.1) (x1.2.2.1) (x1.2.2.2) true W hr0_0 hc0_0 hk).mono fun e W' ⟨he, bel⟩ => ?_
  subst he
  exact ⟨_, rfl, _, _, _, [], _, [], hW', trodAll_mk1 (shut_bool Try.underlying4 _), (trodAll_cons_mk (Below.trod laidOut (by kernel_rfl) (of_decide_eq_true (by kernel_rfl)) k0 bel lt0) (trodAll_cons_mk (Below.trod laidOut (by kernel_rfl) (of_decide_eq_true (by kernel_rfl)) k1 bel lt1) trodAll_mk0)), rfl, bel.frame _, fun h => by cases h⟩
theorem over : Rows.fnExactDoActRow.holds Try.pinned (OpenSpec.ofChange Rows.fnExactDoActSpec) :=
  OpenClaim.holds_of_wide 3 Try.f3 rfl rfl rfl rfl rfl rfl rfl ⟨rfl, rfl, rfl, rfl, rfl⟩ rfl rfl rfl rfl rfl (by kernel_rfl) Try.func3 (by kernel_rfl)
    (of_decide_eq_true (by kernel_rfl)) (by unfold Func.isWrapper; first | (rw [if_pos (by decide +kernel)]; kernel_rfl) | (rw [if_neg (by decide +kernel)]; exact ⟨rfl, rfl⟩))
    (fun os started H enc _ => lifted os started H enc)
theorem proved : Rows.FnExactDoActSaid := over
#print axioms proved
end Go.Proofs.Ytklbkkoojkmjbaa.fnExactDoAct
namespace Go.Proofs.Ytklbkkoojkmjbaa
/-- The row, under a short name, for the claim. -/
theorem fnExactDoAct_holds : Rows.FnExactDoActSaid := fnExactDoAct.proved
end Go.Proofs.Ytklbkkoojkmjbaa
