/- The law FnExactLoseDisk holds of the program for every input: the row, out of the pure statement and the printed contract of the law's function. -/
import Derived.Test.YtaainenplcokaaaRows
import Derived.Test.YtaainenplcokaaaOpenFnExactLoseDisk
import Derived.Test.YtaainenplcokaaaPureFnExactLoseDisk
import Derived.WalkKit
import Derived.ProofKit
import Derived.OpenShut
import Derived.ShutString
import Derived.ChangeOld
import Derived.Below
import Derived.SizedLaws
namespace Go.Proofs.Ytaainenplcokaaa.fnExactLoseDisk
open Go.ChangeShapes Go.WideShapes Go.ChangeAt Go.RowKit Go.Proofs.Ytaainenplcokaaa.QFnExactLoseDisk Go.Proofs.YtaainenplcokaaaW.PrintWords Go.Proofs.Ytaainenplcokaaa.Base Go.Proofs.Ytaainenplcokaaa.OpenFnExactLoseDisk
open Go.ChangeMaps (open_string shut_string)
set_option linter.unusedVariables false
theorem own : ownKnob Try.prog.godebug = none := by kernel_rfl
theorem laidOut : laidOutB Try.prog = true := by kernel_rfl
set_option maxRecDepth 100000 in
theorem lifted (os : Os) (started : os.Started) (H : Type) (enc : TypeId × Value → H) :
    ReturnsInHanded {} Try.checked os 9 .any (Rows.fnExactLoseDiskSpec.pre6 enc Try.prog Try.f9 Rows.fnExactLoseDiskRow.domain false) (Rows.fnExactLoseDiskSpec.post enc Try.prog Try.f9 false true false false) := by
  refine returnsInHanded_of_change_sized (C := Try.checked) own started (by kernel_rfl) Try.func9
    (ChangeSpec.witness6 (enc := enc) (C := Try.checked) false ⟨#[], #[.agg #[.slice none 0 0], .slice none 0 0], []⟩ 8 (by kernel_rfl) (by kernel_rfl) (by kernel_rfl) (by kernel_rfl)) ?_
  intro W base args ds gs before hval0 hW hcnd hsz0 _
  have hsz : (DataW.weightsEach Try.prog (Try.f9.params.toList ++ Rows.fnExactLoseDiskSpec.plain.varTypes Try.prog) (ds ++ gs)).all (· ≤ reachBytes) = true := hsz0
  have hval : ∀ (j : Nat) t v, Try.f9.params[j]? = some t → args[j]? = some v → Value.okWide Try.prog W .any base t v := hval0
  have hW' := hW
  obtain ⟨p, q, hA0, hV, rfl, hfz, hnd⟩ := hW
  have hA : DataW.TrodAll enc Try.prog W 0 (fun _ => true) true Try.f9.params.toList args.toList ds p := hA0
  rw [Try.params9] at hA hval hsz
  obtain ⟨v0, vs0, d0, ds0, p0, q0, hargs, rfl, rfl, h0, r0⟩ := trodAll_cons hA
  obtain ⟨v1, vs1, d1, ds1, p1, q1, rfl, rfl, rfl, h1, r1⟩ := trodAll_cons r0
  obtain ⟨rfl, rfl, rfl⟩ := trodAll_nil r1
  obtain rfl : args = #[v0, v1] := by cases args; simp_all
  obtain ⟨rfl, rfl⟩ := trodVars_none hV
  have k0 := h0
  have lt0 : ∀ x ∈ p0, x.block < W.heap.size := by obtain ⟨m, hm⟩ := k0; exact DataW.trod_lt m _ _ _ hm
  obtain ⟨cs0, rfl, hs0⟩ := okWide_struct Try.underlying34 (hval 0 34 v0 rfl rfl)
  obtain ⟨x0, K0, g0⟩ := (by obtain ⟨fuel, hf⟩ := h0; exact ot34.op hf : ∃ x, ((Kd.slice 179 k179)).K W x cs0.toList ∧ (fun x : (List (S179)) => ((x : List (S179)).length ≤ 9223372036854775807 ∧ ∀ y : S179, y ∈ x → (y.f0.size ≤ 9223372036854775807) ∧ (y.f1.size ≤ 9223372036854775807) ∧ ((Lit.int .i64 y.f2).wf = true))) x)
  obtain ⟨A0_0, c0_0, e0, hc0_0, hr0_0⟩ := K0
  obtain rfl : cs0 = #[.slice A0_0 x0.length c0_0] := Array.ext' (by simpa using e0)
  have k1 := h1
  have lt1 : ∀ x ∈ p1, x.block < W.heap.size := by obtain ⟨m, hm⟩ := k1; exact DataW.trod_lt m _ _ _ hm
  obtain ⟨b1, len1, cap1, rfl⟩ := okWide_slice Try.underlying25 (hval 1 25 v1 rfl rfl)
  obtain ⟨x1, ⟨A1, c1, e1, hc1, hr1⟩, g1⟩ := (by obtain ⟨fuel, hf⟩ := h1; exact o25.op hf : ∃ x, ((Kd.slice 3 (Kd.int .i64))).K W x (Value.slice b1 len1 cap1).cells.toList ∧ (fun x : List (Int) => (x : List (Int)).length ≤ 9223372036854775807 ∧ ∀ y : Int, y ∈ x → (Lit.int .i64 y).wf = true) x)
  simp only [Value.cells, List.cons.injEq, and_true, Value.slice.injEq] at e1
  obtain ⟨rfl, rfl, rfl⟩ := e1
  clear hA0 hval0 hsz0 hsz
  obtain ⟨k, hk⟩ := Pure.FnExactLoseDisk x0 x1 g0 g1
  refine (laws_FnExactLoseDisk.calls k A0_0 c0_0 x0 _ _ x1 true W hr0_0 hc0_0 hr1 hc1 hk).mono fun e W' ⟨he, bel⟩ => ?_
  subst he
  exact ⟨_, rfl, _, _, _, [], _, [], hW', trodAll_mk1 (shut_bool Try.underlying4 _), (trodAll_cons_mk (Below.trod laidOut (by kernel_rfl) (of_decide_eq_true (by kernel_rfl)) k0 bel lt0) (trodAll_cons_mk (Below.trod laidOut (by kernel_rfl) (of_decide_eq_true (by kernel_rfl)) k1 bel lt1) trodAll_mk0)), rfl, bel.frame _, fun h => by cases h⟩
theorem over : Rows.fnExactLoseDiskRow.holds Try.pinned (OpenSpec.ofChange Rows.fnExactLoseDiskSpec) :=
  OpenClaim.holds_of_wide 9 Try.f9 rfl rfl rfl rfl rfl rfl rfl ⟨rfl, rfl, rfl, rfl, rfl⟩ rfl rfl rfl rfl rfl (by kernel_rfl) Try.func9 (by kernel_rfl)
    (of_decide_eq_true (by kernel_rfl)) (by unfold Func.isWrapper; first | (rw [if_pos (by decide +kernel)]; kernel_rfl) | (rw [if_neg (by decide +kernel)]; exact ⟨rfl, rfl⟩))
    (fun os started H enc _ => lifted os started H enc)
theorem proved : Rows.FnExactLoseDiskSaid := over
#print axioms proved
end Go.Proofs.Ytaainenplcokaaa.fnExactLoseDisk
namespace Go.Proofs.Ytaainenplcokaaa
/-- The row, under a short name, for the claim. -/
theorem fnExactLoseDisk_holds : Rows.FnExactLoseDiskSaid := fnExactLoseDisk.proved
end Go.Proofs.Ytaainenplcokaaa
