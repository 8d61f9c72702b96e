/- How the arguments of FnExactDiskOk are opened, and what is to be proved of plain values: on every input of these forms the law's plain function answers true. -/
import Derived.Test.YtfccdecalkabhaaQFnExactDiskOkx5
import Derived.Test.YtfccdecalkabhaaBaseO
import Derived.KernelRfl
namespace Go.Proofs.Ytfccdecalkabhaa.OpenFnExactDiskOk
open Go.RowKit Go.Proofs.Ytfccdecalkabhaa.QFnExactDiskOk Go.Proofs.YtfccdecalkabhaaW.PrintWords Go.Proofs.YtfccdecalkabhaaW.PrintLast Go.Proofs.YtfccdecalkabhaaW.PrintMore Go.Proofs.Ytfccdecalkabhaa.Base
set_option linter.unusedVariables false

theorem o9 : Opens Try.prog 9 Kd.string (fun x : ByteArray => x.size ≤ 9223372036854775807) := by
  have h := Opens.string Try.underlying9 (by kernel_rfl)
  exact h
theorem o3 : Opens Try.prog 3 (Kd.int .i64) (fun x : Int => (Lit.int .i64 x).wf = true) := by
  have h := Opens.int Try.underlying3 (by kernel_rfl)
  exact h
theorem o126 : Opens Try.prog 126 k126 (fun x : S126 => (x.f0.size ≤ 9223372036854775807) ∧ (x.f1.size ≤ 9223372036854775807) ∧ ((Lit.int .i64 x.f2).wf = true)) := by
  have h := Opens.iso (Opens.struct Try.underlying126 (OpensF.cons o9 rfl (OpensF.cons o9 rfl (OpensF.one o3 rfl))) (by kernel_rfl)) (fun x : S126 => (x.f0, x.f1, x.f2)) (fun a => ⟨a.1, a.2.1, a.2.2⟩) (fun _ => rfl)
  exact h
theorem o74 : Opens Try.prog 74 (Kd.slice 126 k126) (fun x : List (S126) => (x : List (S126)).length ≤ 9223372036854775807 ∧ ∀ y : S126, y ∈ x → (y.f0.size ≤ 9223372036854775807) ∧ (y.f1.size ≤ 9223372036854775807) ∧ ((Lit.int .i64 y.f2).wf = true)) := by
  have h := Opens.slice Try.underlying74 o126 (by kernel_rfl)
  exact h
theorem ot76 : Opens Try.prog 76 (Kd.slice 126 k126) (fun x : (List (S126)) => ((x : List (S126)).length ≤ 9223372036854775807 ∧ ∀ y : S126, y ∈ x → (y.f0.size ≤ 9223372036854775807) ∧ (y.f1.size ≤ 9223372036854775807) ∧ ((Lit.int .i64 y.f2).wf = true))) := by
  have h := Opens.struct Try.underlying76 (OpensF.one o74 rfl) (by kernel_rfl)
  exact h

/-- To be proved: plain values alone. -/
def Stmt : Prop := ∀ (l0_0 : List (S126)), ((l0_0 : List (S126)).length ≤ 9223372036854775807 ∧ ∀ y : S126, y ∈ l0_0 → (y.f0.size ≤ 9223372036854775807) ∧ (y.f1.size ≤ 9223372036854775807) ∧ ((Lit.int .i64 y.f2).wf = true)) → ∃ k, laws_FnExactDiskOk.f k l0_0 = some true

end Go.Proofs.Ytfccdecalkabhaa.OpenFnExactDiskOk
