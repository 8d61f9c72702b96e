/- How the arguments of FnExactFileAt are opened, and what is to be proved of plain values: on every input of these forms the law's plain function answers true. -/
import Derived.Test.YtaainenplcokaaaQFnExactFileAtx2
import Derived.Test.YtaainenplcokaaaBaseO
import Derived.KernelRfl
namespace Go.Proofs.Ytaainenplcokaaa.OpenFnExactFileAt
open Go.RowKit Go.Proofs.Ytaainenplcokaaa.QFnExactFileAt Go.Proofs.YtaainenplcokaaaW.PrintWords Go.Proofs.YtaainenplcokaaaW.PrintLast Go.Proofs.YtaainenplcokaaaW.PrintMore Go.Proofs.Ytaainenplcokaaa.Base
set_option linter.unusedVariables false

theorem o9 : Opens Try.prog 9 Kd.string (fun x : ByteArray => x.size ≤ 9223372036854775807) := by
  have h := Opens.string Try.underlying9 (by kernel_rfl)
  exact h
theorem o3 : Opens Try.prog 3 (Kd.int .i64) (fun x : Int => (Lit.int .i64 x).wf = true) := by
  have h := Opens.int Try.underlying3 (by kernel_rfl)
  exact h
theorem o179 : Opens Try.prog 179 k179 (fun x : S179 => (x.f0.size ≤ 9223372036854775807) ∧ (x.f1.size ≤ 9223372036854775807) ∧ ((Lit.int .i64 x.f2).wf = true)) := by
  have h := Opens.iso (Opens.struct Try.underlying179 (OpensF.cons o9 rfl (OpensF.cons o9 rfl (OpensF.one o3 rfl))) (by kernel_rfl)) (fun x : S179 => (x.f0, x.f1, x.f2)) (fun a => ⟨a.1, a.2.1, a.2.2⟩) (fun _ => rfl)
  exact h
theorem o32 : Opens Try.prog 32 (Kd.slice 179 k179) (fun x : List (S179) => (x : List (S179)).length ≤ 9223372036854775807 ∧ ∀ y : S179, y ∈ x → (y.f0.size ≤ 9223372036854775807) ∧ (y.f1.size ≤ 9223372036854775807) ∧ ((Lit.int .i64 y.f2).wf = true)) := by
  have h := Opens.slice Try.underlying32 o179 (by kernel_rfl)
  exact h
theorem ot34 : Opens Try.prog 34 (Kd.slice 179 k179) (fun x : (List (S179)) => ((x : List (S179)).length ≤ 9223372036854775807 ∧ ∀ y : S179, y ∈ x → (y.f0.size ≤ 9223372036854775807) ∧ (y.f1.size ≤ 9223372036854775807) ∧ ((Lit.int .i64 y.f2).wf = true))) := by
  have h := Opens.struct Try.underlying34 (OpensF.one o32 rfl) (by kernel_rfl)
  exact h

/-- To be proved: plain values alone. -/
def Stmt : Prop := ∀ (l0_0 : List (S179)) (a1 : ByteArray), ((l0_0 : List (S179)).length ≤ 9223372036854775807 ∧ ∀ y : S179, y ∈ l0_0 → (y.f0.size ≤ 9223372036854775807) ∧ (y.f1.size ≤ 9223372036854775807) ∧ ((Lit.int .i64 y.f2).wf = true)) → (a1.size ≤ 140737488351232) → ∃ k, laws_FnExactFileAt.f k l0_0 a1 = some true

end Go.Proofs.Ytaainenplcokaaa.OpenFnExactFileAt
