/- How the arguments of FnExactLoseDisk are opened, and what is to be proved of plain values: on every input of these forms the law's plain function answers true. -/
import Derived.Test.YtaainenplcokaaaQFnExactLoseDiskx9
import Derived.Test.YtaainenplcokaaaBaseO
import Derived.KernelRfl
namespace Go.Proofs.Ytaainenplcokaaa.OpenFnExactLoseDisk
open Go.RowKit Go.Proofs.Ytaainenplcokaaa.QFnExactLoseDisk Go.Proofs.YtaainenplcokaaaW.PrintWords Go.Proofs.YtaainenplcokaaaW.PrintLast Go.Proofs.YtaainenplcokaaaW.PrintMore Go.Proofs.Ytaainenplcokaaa.Base
set_option linter.unusedVariables false

theorem o9 : Opens Try.prog 9 Kd.string (fun x : ByteArray => x.size ≤ 9223372036854775807) := by
  have h := Opens.string Try.underlying9 (by kernel_rfl)
  exact h
theorem o3 : Opens Try.prog 3 (Kd.int .i64) (fun x : Int => (Lit.int .i64 x).wf = true) := by
  have h := Opens.int Try.underlying3 (by kernel_rfl)
  exact h
theorem o179 : Opens Try.prog 179 k179 (fun x : S179 => (x.f0.size ≤ 9223372036854775807) ∧ (x.f1.size ≤ 9223372036854775807) ∧ ((Lit.int .i64 x.f2).wf = true)) := by
  have h := Opens.iso (Opens.struct Try.underlying179 (OpensF.cons o9 rfl (OpensF.cons o9 rfl (OpensF.one o3 rfl))) (by kernel_rfl)) (fun x : S179 => (x.f0, x.f1, x.f2)) (fun a => ⟨a.1, a.2.1, a.2.2⟩) (fun _ => rfl)
  exact h
theorem o32 : Opens Try.prog 32 (Kd.slice 179 k179) (fun x : List (S179) => (x : List (S179)).length ≤ 9223372036854775807 ∧ ∀ y : S179, y ∈ x → (y.f0.size ≤ 9223372036854775807) ∧ (y.f1.size ≤ 9223372036854775807) ∧ ((Lit.int .i64 y.f2).wf = true)) := by
  have h := Opens.slice Try.underlying32 o179 (by kernel_rfl)
  exact h
theorem ot34 : Opens Try.prog 34 (Kd.slice 179 k179) (fun x : (List (S179)) => ((x : List (S179)).length ≤ 9223372036854775807 ∧ ∀ y : S179, y ∈ x → (y.f0.size ≤ 9223372036854775807) ∧ (y.f1.size ≤ 9223372036854775807) ∧ ((Lit.int .i64 y.f2).wf = true))) := by
  have h := Opens.struct Try.underlying34 (OpensF.one o32 rfl) (by kernel_rfl)
  exact h
theorem o25 : Opens Try.prog 25 (Kd.slice 3 (Kd.int .i64)) (fun x : List (Int) => (x : List (Int)).length ≤ 9223372036854775807 ∧ ∀ y : Int, y ∈ x → (Lit.int .i64 y).wf = true) := by
  have h := Opens.slice Try.underlying25 o3 (by kernel_rfl)
  exact h

/-- To be proved: plain values alone. -/
def Stmt : Prop := ∀ (l0_0 : List (S179)) (l1 : List Int), ((l0_0 : List (S179)).length ≤ 9223372036854775807 ∧ ∀ y : S179, y ∈ l0_0 → (y.f0.size ≤ 9223372036854775807) ∧ (y.f1.size ≤ 9223372036854775807) ∧ ((Lit.int .i64 y.f2).wf = true)) → ((l1 : List (Int)).length ≤ 9223372036854775807 ∧ ∀ y : Int, y ∈ l1 → (Lit.int .i64 y).wf = true) → ∃ k, laws_FnExactLoseDisk.f k l0_0 l1 = some true

end Go.Proofs.Ytaainenplcokaaa.OpenFnExactLoseDisk
