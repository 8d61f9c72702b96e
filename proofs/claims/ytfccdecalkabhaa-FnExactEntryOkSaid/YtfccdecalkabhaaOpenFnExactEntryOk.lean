/- How the arguments of FnExactEntryOk are opened, and what is to be proved of plain values: on every input of these forms the law's plain function answers true. -/
import Derived.Test.YtfccdecalkabhaaPFnExactEntryOkx2
import Derived.Test.YtfccdecalkabhaaBaseO
import Derived.KernelRfl
namespace Go.Proofs.Ytfccdecalkabhaa.OpenFnExactEntryOk
open Go.RowKit Go.Proofs.Ytfccdecalkabhaa.PFnExactEntryOk Go.Proofs.YtfccdecalkabhaaW.PrintWords Go.Proofs.YtfccdecalkabhaaW.PrintLast Go.Proofs.YtfccdecalkabhaaW.PrintMore Go.Proofs.Ytfccdecalkabhaa.Base
set_option linter.unusedVariables false

theorem o3 : Opens Try.prog 3 (Kd.int .i64) (fun x : Int => (Lit.int .i64 x).wf = true) := by
  have h := Opens.int Try.underlying3 (by kernel_rfl)
  exact h
theorem o9 : Opens Try.prog 9 Kd.string (fun x : ByteArray => x.size ≤ 9223372036854775807) := by
  have h := Opens.string Try.underlying9 (by kernel_rfl)
  exact h
theorem ot34 : Opens Try.prog 34 (Kd.pair (Kd.int .i64) (Kd.pair (Kd.int .i64) Kd.string)) (fun x : (Int) × (Int) × (ByteArray) => ((Lit.int .i64 x.1).wf = true) ∧ ((Lit.int .i64 x.2.1).wf = true) ∧ (x.2.2.size ≤ 9223372036854775807)) := by
  have h := Opens.struct Try.underlying34 (OpensF.cons o3 rfl (OpensF.cons o3 rfl (OpensF.one o9 rfl))) (by kernel_rfl)
  exact h

/-- To be proved: plain values alone. -/
def Stmt : Prop := ∀ (a0_0 : Int) (a0_1 : Int) (a0_2 : ByteArray), ((Lit.int .i64 a0_0).wf = true) → ((Lit.int .i64 a0_1).wf = true) → (a0_2.size ≤ 9223372036854775807) → ∃ k, laws_FnExactEntryOk.f k a0_0 a0_1 a0_2 = some true

end Go.Proofs.Ytfccdecalkabhaa.OpenFnExactEntryOk
