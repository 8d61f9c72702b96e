/- How the arguments of FnExactRingOk are opened, and what is to be proved of plain values: on every input of these forms the law's plain function answers true. -/
import Derived.Test.YtfccdecalkabhaaQFnExactRingOkx7
import Derived.Test.YtfccdecalkabhaaBaseO
import Derived.KernelRfl
namespace Go.Proofs.Ytfccdecalkabhaa.OpenFnExactRingOk
open Go.RowKit Go.Proofs.Ytfccdecalkabhaa.QFnExactRingOk Go.Proofs.YtfccdecalkabhaaW.PrintWords Go.Proofs.YtfccdecalkabhaaW.PrintLast Go.Proofs.YtfccdecalkabhaaW.PrintMore Go.Proofs.Ytfccdecalkabhaa.Base
set_option linter.unusedVariables false

theorem o3 : Opens Try.prog 3 (Kd.int .i64) (fun x : Int => (Lit.int .i64 x).wf = true) := by
  have h := Opens.int Try.underlying3 (by kernel_rfl)
  exact h
theorem o9 : Opens Try.prog 9 Kd.string (fun x : ByteArray => x.size ≤ 9223372036854775807) := by
  have h := Opens.string Try.underlying9 (by kernel_rfl)
  exact h
theorem o122 : Opens Try.prog 122 k122 (fun x : S122 => ((Lit.int .i64 x.f0).wf = true) ∧ (x.f1.size ≤ 9223372036854775807)) := by
  have h := Opens.iso (Opens.struct Try.underlying122 (OpensF.cons o3 rfl (OpensF.one o9 rfl)) (by kernel_rfl)) (fun x : S122 => (x.f0, x.f1)) (fun a => ⟨a.1, a.2⟩) (fun _ => rfl)
  exact h
theorem o55 : Opens Try.prog 55 (Kd.slice 122 k122) (fun x : List (S122) => (x : List (S122)).length ≤ 9223372036854775807 ∧ ∀ y : S122, y ∈ x → ((Lit.int .i64 y.f0).wf = true) ∧ (y.f1.size ≤ 9223372036854775807)) := by
  have h := Opens.slice Try.underlying55 o122 (by kernel_rfl)
  exact h
theorem ot57 : Opens Try.prog 57 (Kd.pair (Kd.slice 122 k122) (Kd.pair (Kd.int .i64) (Kd.int .i64))) (fun x : (List (S122)) × (Int) × (Int) => ((x.1 : List (S122)).length ≤ 9223372036854775807 ∧ ∀ y : S122, y ∈ x.1 → ((Lit.int .i64 y.f0).wf = true) ∧ (y.f1.size ≤ 9223372036854775807)) ∧ ((Lit.int .i64 x.2.1).wf = true) ∧ ((Lit.int .i64 x.2.2).wf = true)) := by
  have h := Opens.struct Try.underlying57 (OpensF.cons o55 rfl (OpensF.cons o3 rfl (OpensF.one o3 rfl))) (by kernel_rfl)
  exact h

/-- To be proved: plain values alone. -/
def Stmt : Prop := ∀ (l0_0 : List (S122)) (a0_1 : Int) (a0_2 : Int), ((l0_0 : List (S122)).length ≤ 9223372036854775807 ∧ ∀ y : S122, y ∈ l0_0 → ((Lit.int .i64 y.f0).wf = true) ∧ (y.f1.size ≤ 9223372036854775807)) → ((Lit.int .i64 a0_1).wf = true) → ((Lit.int .i64 a0_2).wf = true) → ∃ k, laws_FnExactRingOk.f k l0_0 a0_1 a0_2 = some true

end Go.Proofs.Ytfccdecalkabhaa.OpenFnExactRingOk
