/- How the arguments of FnExactCutActs are opened, and what is to be proved of plain values: on every input of these forms the law's plain function answers true. -/
import Derived.Test.YtklbkkoojkmjbaaQFnExactCutActsx19
import Derived.Test.YtklbkkoojkmjbaaBaseO
import Derived.KernelRfl
namespace Go.Proofs.Ytklbkkoojkmjbaa.OpenFnExactCutActs
open Go.RowKit Go.Proofs.Ytklbkkoojkmjbaa.QFnExactCutActs Go.Proofs.YtklbkkoojkmjbaaW.PrintWords Go.Proofs.YtklbkkoojkmjbaaW.PrintLast Go.Proofs.YtklbkkoojkmjbaaW.PrintMore Go.Proofs.Ytklbkkoojkmjbaa.Base
set_option linter.unusedVariables false

theorem o9 : Opens Try.prog 9 Kd.string (fun x : ByteArray => x.size ≤ 9223372036854775807) := by
  have h := Opens.string Try.underlying9 (by kernel_rfl)
  exact h
theorem o3 : Opens Try.prog 3 (Kd.int .i64) (fun x : Int => (Lit.int .i64 x).wf = true) := by
  have h := Opens.int Try.underlying3 (by kernel_rfl)
  exact h
theorem o85 : Opens Try.prog 85 k85 (fun x : S85 => (x.f0.size ≤ 9223372036854775807) ∧ (x.f1.size ≤ 9223372036854775807) ∧ ((Lit.int .i64 x.f2).wf = true)) := by
  have h := Opens.iso (Opens.struct Try.underlying85 (OpensF.cons o9 rfl (OpensF.cons o9 rfl (OpensF.one o3 rfl))) (by kernel_rfl)) (fun x : S85 => (x.f0, x.f1, x.f2)) (fun a => ⟨a.1, a.2.1, a.2.2⟩) (fun _ => rfl)
  exact h
theorem o22 : Opens Try.prog 22 (Kd.slice 85 k85) (fun x : List (S85) => (x : List (S85)).length ≤ 9223372036854775807 ∧ ∀ y : S85, y ∈ x → (y.f0.size ≤ 9223372036854775807) ∧ (y.f1.size ≤ 9223372036854775807) ∧ ((Lit.int .i64 y.f2).wf = true)) := by
  have h := Opens.slice Try.underlying22 o85 (by kernel_rfl)
  exact h
theorem ot24 : Opens Try.prog 24 (Kd.slice 85 k85) (fun x : (List (S85)) => ((x : List (S85)).length ≤ 9223372036854775807 ∧ ∀ y : S85, y ∈ x → (y.f0.size ≤ 9223372036854775807) ∧ (y.f1.size ≤ 9223372036854775807) ∧ ((Lit.int .i64 y.f2).wf = true))) := by
  have h := Opens.struct Try.underlying24 (OpensF.one o22 rfl) (by kernel_rfl)
  exact h
theorem o26 : Opens Try.prog 26 k26 (fun x : S26 => ((Lit.int .i64 x.f0).wf = true) ∧ (x.f1.size ≤ 9223372036854775807) ∧ (x.f2.size ≤ 9223372036854775807) ∧ (x.f3.size ≤ 9223372036854775807)) := by
  have h := Opens.iso (Opens.struct Try.underlying26 (OpensF.cons o3 rfl (OpensF.cons o9 rfl (OpensF.cons o9 rfl (OpensF.one o9 rfl)))) (by kernel_rfl)) (fun x : S26 => (x.f0, x.f1, x.f2, x.f3)) (fun a => ⟨a.1, a.2.1, a.2.2.1, a.2.2.2⟩) (fun _ => rfl)
  exact h
theorem o40 : Opens Try.prog 40 (Kd.slice 26 k26) (fun x : List (S26) => (x : List (S26)).length ≤ 9223372036854775807 ∧ ∀ y : S26, y ∈ x → ((Lit.int .i64 y.f0).wf = true) ∧ (y.f1.size ≤ 9223372036854775807) ∧ (y.f2.size ≤ 9223372036854775807) ∧ (y.f3.size ≤ 9223372036854775807)) := by
  have h := Opens.slice Try.underlying40 o26 (by kernel_rfl)
  exact h
theorem o51 : Opens Try.prog 51 (Kd.slice 3 (Kd.int .i64)) (fun x : List (Int) => (x : List (Int)).length ≤ 9223372036854775807 ∧ ∀ y : Int, y ∈ x → (Lit.int .i64 y).wf = true) := by
  have h := Opens.slice Try.underlying51 o3 (by kernel_rfl)
  exact h

/-- To be proved: plain values alone. -/
def Stmt : Prop := ∀ (l0_0 : List (S85)) (l1 : List (S26)) (a2 : Int) (l3 : List Int), ((l0_0 : List (S85)).length ≤ 9223372036854775807 ∧ ∀ y : S85, y ∈ l0_0 → (y.f0.size ≤ 9223372036854775807) ∧ (y.f1.size ≤ 9223372036854775807) ∧ ((Lit.int .i64 y.f2).wf = true)) → ((l1 : List (S26)).length ≤ 9223372036854775807 ∧ ∀ y : S26, y ∈ l1 → ((Lit.int .i64 y.f0).wf = true) ∧ (y.f1.size ≤ 9223372036854775807) ∧ (y.f2.size ≤ 9223372036854775807) ∧ (y.f3.size ≤ 9223372036854775807)) → ((Lit.int .i64 a2).wf = true) → ((l3 : List (Int)).length ≤ 9223372036854775807 ∧ ∀ y : Int, y ∈ l3 → (Lit.int .i64 y).wf = true) → ∃ k, laws_FnExactCutActs.f k l0_0 l1 a2 l3 = some true

end Go.Proofs.Ytklbkkoojkmjbaa.OpenFnExactCutActs
