/- How the arguments of FnExactSnapText are opened, and what is to be proved of plain values: on every input of these forms the law's plain function answers true. -/
import Derived.Test.YtmbceckgdhobjaaQFnExactSnapTextx5
import Derived.Test.YtmbceckgdhobjaaBaseO
import Derived.KernelRfl
namespace Go.Proofs.Ytmbceckgdhobjaa.OpenFnExactSnapText
open Go.RowKit Go.Proofs.Ytmbceckgdhobjaa.QFnExactSnapText Go.Proofs.YtmbceckgdhobjaaW.PrintWords Go.Proofs.YtmbceckgdhobjaaW.PrintLast Go.Proofs.YtmbceckgdhobjaaW.PrintMore Go.Proofs.Ytmbceckgdhobjaa.Base
set_option linter.unusedVariables false

theorem o3 : Opens Try.prog 3 (Kd.int .i64) (fun x : Int => (Lit.int .i64 x).wf = true) := by
  have h := Opens.int Try.underlying3 (by kernel_rfl)
  exact h
theorem o22 : Opens Try.prog 22 (Kd.slice 3 (Kd.int .i64)) (fun x : List (Int) => (x : List (Int)).length ≤ 9223372036854775807 ∧ ∀ y : Int, y ∈ x → (Lit.int .i64 y).wf = true) := by
  have h := Opens.slice Try.underlying22 o3 (by kernel_rfl)
  exact h
theorem o9 : Opens Try.prog 9 Kd.string (fun x : ByteArray => x.size ≤ 9223372036854775807) := by
  have h := Opens.string Try.underlying9 (by kernel_rfl)
  exact h
theorem ot24 : Opens Try.prog 24 (Kd.pair (Kd.int .i64) (Kd.pair (Kd.int .i64) (Kd.pair (Kd.slice 3 (Kd.int .i64)) Kd.string))) (fun x : (Int) × (Int) × (List (Int)) × (ByteArray) => ((Lit.int .i64 x.1).wf = true) ∧ ((Lit.int .i64 x.2.1).wf = true) ∧ ((x.2.2.1 : List (Int)).length ≤ 9223372036854775807 ∧ ∀ y : Int, y ∈ x.2.2.1 → (Lit.int .i64 y).wf = true) ∧ (x.2.2.2.size ≤ 9223372036854775807)) := by
  have h := Opens.struct Try.underlying24 (OpensF.cons o3 rfl (OpensF.cons o3 rfl (OpensF.cons o22 rfl (OpensF.one o9 rfl)))) (by kernel_rfl)
  exact h

/-- To be proved: plain values alone. -/
def Stmt : Prop := ∀ (a0_0 : Int) (a0_1 : Int) (l0_2 : List Int) (a0_3 : ByteArray), ((Lit.int .i64 a0_0).wf = true) → ((Lit.int .i64 a0_1).wf = true) → ((l0_2 : List (Int)).length ≤ 9223372036854775807 ∧ ∀ y : Int, y ∈ l0_2 → (Lit.int .i64 y).wf = true) → (a0_3.size ≤ 9223372036854775807) → ∃ k, laws_FnExactSnapText.f k a0_0 a0_1 l0_2 a0_3 = some true

end Go.Proofs.Ytmbceckgdhobjaa.OpenFnExactSnapText
