/- How the arguments of FnExactEntryText are opened, and what is to be proved of plain values: on every input of these forms the law's plain function answers true. -/
import Derived.Test.YtnnpbkocfboalaaQFnExactEntryTextx4
import Derived.Test.YtnnpbkocfboalaaBaseO
import Derived.KernelRfl
namespace Go.Proofs.Ytnnpbkocfboalaa.OpenFnExactEntryText
open Go.RowKit Go.Proofs.Ytnnpbkocfboalaa.QFnExactEntryText Go.Proofs.YtnnpbkocfboalaaW.PrintWords Go.Proofs.YtnnpbkocfboalaaW.PrintLast Go.Proofs.YtnnpbkocfboalaaW.PrintMore Go.Proofs.Ytnnpbkocfboalaa.Base
set_option linter.unusedVariables false

theorem o3 : Opens Try.prog 3 (Kd.int .i64) (fun x : Int => (Lit.int .i64 x).wf = true) := by
  have h := Opens.int Try.underlying3 (by kernel_rfl)
  exact h
theorem o9 : Opens Try.prog 9 Kd.string (fun x : ByteArray => x.size ≤ 9223372036854775807) := by
  have h := Opens.string Try.underlying9 (by kernel_rfl)
  exact h
theorem ot45 : Opens Try.prog 45 (Kd.pair (Kd.int .i64) (Kd.pair (Kd.int .i64) Kd.string)) (fun x : (Int) × (Int) × (ByteArray) => ((Lit.int .i64 x.1).wf = true) ∧ ((Lit.int .i64 x.2.1).wf = true) ∧ (x.2.2.size ≤ 9223372036854775807)) := by
  have h := Opens.struct Try.underlying45 (OpensF.cons o3 rfl (OpensF.cons o3 rfl (OpensF.one o9 rfl))) (by kernel_rfl)
  exact h

/-- To be proved: plain values alone. -/
def Stmt : Prop := ∀ (a0 : Int) (a1_0 : Int) (a1_1 : Int) (a1_2 : ByteArray), ((Lit.int .i64 a0).wf = true) → ((Lit.int .i64 a1_0).wf = true) → ((Lit.int .i64 a1_1).wf = true) → (a1_2.size ≤ 9223372036854775807) → ∃ k, laws_FnExactEntryText.f k a0 a1_0 a1_1 a1_2 = some true

end Go.Proofs.Ytnnpbkocfboalaa.OpenFnExactEntryText
