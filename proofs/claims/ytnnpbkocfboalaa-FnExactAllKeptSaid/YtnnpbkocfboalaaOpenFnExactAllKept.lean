/- How the arguments of FnExactAllKept are opened, and what is to be proved of plain values: on every input of these forms the law's plain function answers true. -/
import Derived.Test.YtnnpbkocfboalaaQFnExactAllKeptx6
import Derived.Test.YtnnpbkocfboalaaBaseO
import Derived.KernelRfl
namespace Go.Proofs.Ytnnpbkocfboalaa.OpenFnExactAllKept
open Go.RowKit Go.Proofs.Ytnnpbkocfboalaa.QFnExactAllKept Go.Proofs.YtnnpbkocfboalaaW.PrintWords Go.Proofs.YtnnpbkocfboalaaW.PrintLast Go.Proofs.YtnnpbkocfboalaaW.PrintMore Go.Proofs.Ytnnpbkocfboalaa.Base
set_option linter.unusedVariables false

theorem o9 : Opens Try.prog 9 Kd.string (fun x : ByteArray => x.size ≤ 9223372036854775807) := by
  have h := Opens.string Try.underlying9 (by kernel_rfl)
  exact h
theorem o3 : Opens Try.prog 3 (Kd.int .i64) (fun x : Int => (Lit.int .i64 x).wf = true) := by
  have h := Opens.int Try.underlying3 (by kernel_rfl)
  exact h
theorem o153 : Opens Try.prog 153 k153 (fun x : S153 => (x.f0.size ≤ 9223372036854775807) ∧ (x.f1.size ≤ 9223372036854775807) ∧ ((Lit.int .i64 x.f2).wf = true)) := by
  have h := Opens.iso (Opens.struct Try.underlying153 (OpensF.cons o9 rfl (OpensF.cons o9 rfl (OpensF.one o3 rfl))) (by kernel_rfl)) (fun x : S153 => (x.f0, x.f1, x.f2)) (fun a => ⟨a.1, a.2.1, a.2.2⟩) (fun _ => rfl)
  exact h
theorem o22 : Opens Try.prog 22 (Kd.slice 153 k153) (fun x : List (S153) => (x : List (S153)).length ≤ 9223372036854775807 ∧ ∀ y : S153, y ∈ x → (y.f0.size ≤ 9223372036854775807) ∧ (y.f1.size ≤ 9223372036854775807) ∧ ((Lit.int .i64 y.f2).wf = true)) := by
  have h := Opens.slice Try.underlying22 o153 (by kernel_rfl)
  exact h
theorem ot24 : Opens Try.prog 24 (Kd.slice 153 k153) (fun x : (List (S153)) => ((x : List (S153)).length ≤ 9223372036854775807 ∧ ∀ y : S153, y ∈ x → (y.f0.size ≤ 9223372036854775807) ∧ (y.f1.size ≤ 9223372036854775807) ∧ ((Lit.int .i64 y.f2).wf = true))) := by
  have h := Opens.struct Try.underlying24 (OpensF.one o22 rfl) (by kernel_rfl)
  exact h

/-- To be proved: plain values alone. -/
def Stmt : Prop := ∀ (l0_0 : List (S153)), ((l0_0 : List (S153)).length ≤ 9223372036854775807 ∧ ∀ y : S153, y ∈ l0_0 → (y.f0.size ≤ 9223372036854775807) ∧ (y.f1.size ≤ 9223372036854775807) ∧ ((Lit.int .i64 y.f2).wf = true)) → ∃ k, laws_FnExactAllKept.f k l0_0 = some true

end Go.Proofs.Ytnnpbkocfboalaa.OpenFnExactAllKept
