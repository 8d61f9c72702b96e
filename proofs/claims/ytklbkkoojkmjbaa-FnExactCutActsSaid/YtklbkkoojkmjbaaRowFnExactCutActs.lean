/- The law FnExactCutActs holds of the program for every input: the row, out of the pure statement and the printed contract of the law's function. -/
import Derived.Test.YtklbkkoojkmjbaaRows
import Derived.Test.YtklbkkoojkmjbaaOpenFnExactCutActs
import Derived.Test.YtklbkkoojkmjbaaPureFnExactCutActs
import Derived.WalkKit
import Derived.ProofKit
import Derived.OpenShut
import Derived.ShutString
import Derived.ChangeOld
import Derived.Below
import Derived.SizedLaws
namespace Go.Proofs.Ytklbkkoojkmjbaa.fnExactCutActs
open Go.ChangeShapes Go.WideShapes Go.ChangeAt Go.RowKit Go.Proofs.Ytklbkkoojkmjbaa.QFnExactCutActs Go.Proofs.YtklbkkoojkmjbaaW.PrintWords Go.Proofs.Ytklbkkoojkmjbaa.Base Go.Proofs.Ytklbkkoojkmjbaa.OpenFnExactCutActs
open Go.ChangeMaps (open_string shut_string)
set_option linter.unusedVariables false
theorem own : ownKnob Try.prog.godebug = none := by kernel_rfl
theorem laidOut : laidOutB Try.prog = true := by kernel_rfl
set_option maxRecDepth 100000 in
theorem lifted (os : Os) (started : os.Started) (H : Type) (enc : TypeId × Value → H) :
    ReturnsInHanded {} Try.checked os 6 .any (Rows.fnExactCutActsSpec.pre6 enc Try.prog Try.f6 Rows.fnExactCutActsRow.domain false) (Rows.fnExactCutActsSpec.post enc Try.prog Try.f6 false true false false) := by
  refine returnsInHanded_of_change_sized (C := Try.checked) own started (by kernel_rfl) Try.func6
    (ChangeSpec.witness6 (enc := enc) (C := Try.checked) false ⟨#[], #[.agg #[.slice none 0 0], .slice none 0 0, .int .i64 0, .slice none 0 0], []⟩ 8 (by kernel_rfl) (by kernel_rfl) (by kernel_rfl) (by kernel_rfl)) ?_
  intro W base args ds gs before hval0 hW hcnd hsz0 _
  have hsz : (DataW.weightsEach Try.prog (Try.f6.params.toList ++ Rows.fnExactCutActsSpec.plain.varTypes Try.prog) (ds ++ gs)).all (· ≤ reachBytes) = true := hsz0
  have hval : ∀ (j : Nat) t v, Try.f6.params[j]? = some t → args[j]? = some v → Value.okWide Try.prog W .any base t v := hval0
  have hW' := hW
  obtain ⟨p, q, hA0, hV, rfl, hfz, hnd⟩ := hW
  have hA : DataW.TrodAll enc Try.prog W 0 (fun _ => true) true Try.f6.params.toList args.toList ds p := hA0
  rw [Try.params6] at hA hval hsz
  obtain ⟨v0, vs0, d0, ds0, p0, q0, hargs, rfl, rfl, h0, r0⟩ := trodAll_cons hA
  obtain ⟨v1, vs1, d1, ds1, p1, q1, rfl, rfl, rfl, h1, r1⟩ := trodAll_cons r0
  obtain ⟨v2, vs2, d2, ds2, p2, q2, rfl, rfl, rfl, h2, r2⟩ := trodAll_cons r1
  obtain ⟨v3, vs3, d3, ds3, p3, q3, rfl, rfl, rfl, h3, r3⟩ := trodAll_cons r2
  obtain ⟨rfl, rfl, rfl⟩ := trodAll_nil r3
  obtain rfl : args = #[v0, v1, v2, v3] := by cases args; simp_all
  obtain ⟨rfl, rfl⟩ := trodVars_none hV
  have k0 := h0
  have lt0 : ∀ x ∈ p0, x.block < W.heap.size := by obtain ⟨m, hm⟩ := k0; exact DataW.trod_lt m _ _ _ hm
  obtain ⟨cs0, rfl, hs0⟩ := okWide_struct Try.underlying24 (hval 0 24 v0 rfl rfl)
  obtain ⟨x0, K0, g0⟩ := (by obtain ⟨fuel, hf⟩ := h0; exact ot24.op hf : ∃ x, ((Kd.slice 85 k85)).K W x cs0.toList ∧ (fun x : (List (S85)) => ((x : List (S85)).length ≤ 9223372036854775807 ∧ ∀ y : S85, y ∈ x → (y.f0.size ≤ 9223372036854775807) ∧ (y.f1.size ≤ 9223372036854775807) ∧ ((Lit.int .i64 y.f2).wf = true))) x)
  obtain ⟨A0_0, c0_0, e0, hc0_0, hr0_0⟩ := K0
  obtain rfl : cs0 = #[.slice A0_0 x0.length c0_0] := Array.ext' (by simpa using e0)
  have k1 := h1
  have lt1 : ∀ x ∈ p1, x.block < W.heap.size := by obtain ⟨m, hm⟩ := k1; exact DataW.trod_lt m _ _ _ hm
  obtain ⟨b1, len1, cap1, rfl⟩ := okWide_slice Try.underlying40 (hval 1 40 v1 rfl rfl)
  obtain ⟨x1, ⟨A1, c1, e1, hc1, hr1⟩, g1⟩ := (by obtain ⟨fuel, hf⟩ := h1; exact o40.op hf : ∃ x, ((Kd.slice 26 k26)).K W x (Value.slice b1 len1 cap1).cells.toList ∧ (fun x : List (S26) => (x : List (S26)).length ≤ 9223372036854775807 ∧ ∀ y : S26, y ∈ x → ((Lit.int .i64 y.f0).wf = true) ∧ (y.f1.size ≤ 9223372036854775807) ∧ (y.f2.size ≤ 9223372036854775807) ∧ (y.f3.size ≤ 9223372036854775807)) x)
  simp only [Value.cells, List.cons.injEq, and_true, Value.slice.injEq] at e1
  obtain ⟨rfl, rfl, rfl⟩ := e1
  obtain ⟨a2, rfl, rfl, rfl, w2⟩ := open_int Try.underlying3 (hval 2 3 v2 rfl rfl) h2
  have k3 := h3
  have lt3 : ∀ x ∈ p3, x.block < W.heap.size := by obtain ⟨m, hm⟩ := k3; exact DataW.trod_lt m _ _ _ hm
  obtain ⟨b3, len3, cap3, rfl⟩ := okWide_slice Try.underlying51 (hval 3 51 v3 rfl rfl)
  obtain ⟨x3, ⟨A3, c3, e3, hc3, hr3⟩, g3⟩ := (by obtain ⟨fuel, hf⟩ := h3; exact o51.op hf : ∃ x, ((Kd.slice 3 (Kd.int .i64))).K W x (Value.slice b3 len3 cap3).cells.toList ∧ (fun x : List (Int) => (x : List (Int)).length ≤ 9223372036854775807 ∧ ∀ y : Int, y ∈ x → (Lit.int .i64 y).wf = true) x)
  simp only [Value.cells, List.cons.injEq, and_true, Value.slice.injEq] at e3
  obtain ⟨rfl, rfl, rfl⟩ := e3
  clear hA0 hval0 hsz0 hsz
  obtain ⟨k, hk⟩ := Pure.FnExactCutActs x0 x1 a2 x3 g0 g1 w2 g3
  refine (laws_FnExactCutActs.calls k A0_0 c0_0 x0 _ _ x1 a2 _ _ x3 true W hr0_0 hc0_0 hr1 hc1 hr3 hc3 hk).mono fun e W' ⟨he, bel⟩ => ?_
  subst he
  exact ⟨_, rfl, _, _, _, [], _, [], hW', trodAll_mk1 (shut_bool Try.underlying4 _), (trodAll_cons_mk (Below.trod laidOut (by kernel_rfl) (of_decide_eq_true (by kernel_rfl)) k0 bel lt0) (trodAll_cons_mk (Below.trod laidOut (by kernel_rfl) (of_decide_eq_true (by kernel_rfl)) k1 bel lt1) (trodAll_cons_mk (shut_int Try.underlying3 w2) (trodAll_cons_mk (Below.trod laidOut (by kernel_rfl) (of_decide_eq_true (by kernel_rfl)) k3 bel lt3) trodAll_mk0)))), rfl, bel.frame _, fun h => by cases h⟩
theorem over : Rows.fnExactCutActsRow.holds Try.pinned (OpenSpec.ofChange Rows.fnExactCutActsSpec) :=
  OpenClaim.holds_of_wide 6 Try.f6 rfl rfl rfl rfl rfl rfl rfl ⟨rfl, rfl, rfl, rfl, rfl⟩ rfl rfl rfl rfl rfl (by kernel_rfl) Try.func6 (by kernel_rfl)
    (of_decide_eq_true (by kernel_rfl)) (by unfold Func.isWrapper; first | (rw [if_pos (by decide +kernel)]; kernel_rfl) | (rw [if_neg (by decide +kernel)]; exact ⟨rfl, rfl⟩))
    (fun os started H enc _ => lifted os started H enc)
theorem proved : Rows.FnExactCutActsSaid := over
#print axioms proved
end Go.Proofs.Ytklbkkoojkmjbaa.fnExactCutActs
namespace Go.Proofs.Ytklbkkoojkmjbaa
/-- The row, under a short name, for the claim. -/
theorem fnExactCutActs_holds : Rows.FnExactCutActsSaid := fnExactCutActs.proved
end Go.Proofs.Ytklbkkoojkmjbaa
