/- How the arguments of FnExactShared are opened, and what is to be proved of plain values: on every input of these forms the law's plain function answers true. -/
import Derived.Test.YtmbceckgdhobjaaQFnExactSharedx9
import Derived.Test.YtmbceckgdhobjaaBaseO
import Derived.KernelRfl
namespace Go.Proofs.Ytmbceckgdhobjaa.OpenFnExactShared
open Go.RowKit Go.Proofs.Ytmbceckgdhobjaa.QFnExactShared Go.Proofs.YtmbceckgdhobjaaW.PrintWords Go.Proofs.YtmbceckgdhobjaaW.PrintLast Go.Proofs.YtmbceckgdhobjaaW.PrintMore Go.Proofs.Ytmbceckgdhobjaa.Base
set_option linter.unusedVariables false

theorem o3 : Opens Try.prog 3 (Kd.int .i64) (fun x : Int => (Lit.int .i64 x).wf = true) := by
  have h := Opens.int Try.underlying3 (by kernel_rfl)
  exact h
theorem o9 : Opens Try.prog 9 Kd.string (fun x : ByteArray => x.size ≤ 9223372036854775807) := by
  have h := Opens.string Try.underlying9 (by kernel_rfl)
  exact h
theorem o47 : Opens Try.prog 47 k47 (fun x : S47 => ((Lit.int .i64 x.f0).wf = true) ∧ ((Lit.int .i64 x.f1).wf = true) ∧ (x.f2.size ≤ 9223372036854775807)) := by
  have h := Opens.iso (Opens.struct Try.underlying47 (OpensF.cons o3 rfl (OpensF.cons o3 rfl (OpensF.one o9 rfl))) (by kernel_rfl)) (fun x : S47 => (x.f0, x.f1, x.f2)) (fun a => ⟨a.1, a.2.1, a.2.2⟩) (fun _ => rfl)
  exact h
theorem o32 : Opens Try.prog 32 (Kd.slice 47 k47) (fun x : List (S47) => (x : List (S47)).length ≤ 9223372036854775807 ∧ ∀ y : S47, y ∈ x → ((Lit.int .i64 y.f0).wf = true) ∧ ((Lit.int .i64 y.f1).wf = true) ∧ (y.f2.size ≤ 9223372036854775807)) := by
  have h := Opens.slice Try.underlying32 o47 (by kernel_rfl)
  exact h
theorem ot34 : Opens Try.prog 34 (Kd.pair (Kd.int .i64) (Kd.pair (Kd.int .i64) (Kd.slice 47 k47))) (fun x : (Int) × (Int) × (List (S47)) => ((Lit.int .i64 x.1).wf = true) ∧ ((Lit.int .i64 x.2.1).wf = true) ∧ ((x.2.2 : List (S47)).length ≤ 9223372036854775807 ∧ ∀ y : S47, y ∈ x.2.2 → ((Lit.int .i64 y.f0).wf = true) ∧ ((Lit.int .i64 y.f1).wf = true) ∧ (y.f2.size ≤ 9223372036854775807))) := by
  have h := Opens.struct Try.underlying34 (OpensF.cons o3 rfl (OpensF.cons o3 rfl (OpensF.one o32 rfl))) (by kernel_rfl)
  exact h

/-- To be proved: plain values alone. -/
def Stmt : Prop := ∀ (a0_0 : Int) (a0_1 : Int) (l0_2 : List (S47)) (a1_0 : Int) (a1_1 : Int) (l1_2 : List (S47)), ((Lit.int .i64 a0_0).wf = true) → ((Lit.int .i64 a0_1).wf = true) → ((l0_2 : List (S47)).length ≤ 9223372036854775807 ∧ ∀ y : S47, y ∈ l0_2 → ((Lit.int .i64 y.f0).wf = true) ∧ ((Lit.int .i64 y.f1).wf = true) ∧ (y.f2.size ≤ 9223372036854775807)) → ((Lit.int .i64 a1_0).wf = true) → ((Lit.int .i64 a1_1).wf = true) → ((l1_2 : List (S47)).length ≤ 9223372036854775807 ∧ ∀ y : S47, y ∈ l1_2 → ((Lit.int .i64 y.f0).wf = true) ∧ ((Lit.int .i64 y.f1).wf = true) ∧ (y.f2.size ≤ 9223372036854775807)) → ∃ k, laws_FnExactShared.f k a0_0 a0_1 l0_2 a1_0 a1_1 l1_2 = some true

end Go.Proofs.Ytmbceckgdhobjaa.OpenFnExactShared
