/- How the arguments of FnExactJournalOk are opened, and what is to be proved of plain values: on every input of these forms the law's plain function answers true. -/
import Derived.Test.YtnnpbkocfboalaaQFnExactJournalOkx5
import Derived.Test.YtnnpbkocfboalaaBaseO
import Derived.KernelRfl
namespace Go.Proofs.Ytnnpbkocfboalaa.OpenFnExactJournalOk
open Go.RowKit Go.Proofs.Ytnnpbkocfboalaa.QFnExactJournalOk Go.Proofs.YtnnpbkocfboalaaW.PrintWords Go.Proofs.YtnnpbkocfboalaaW.PrintLast Go.Proofs.YtnnpbkocfboalaaW.PrintMore Go.Proofs.Ytnnpbkocfboalaa.Base
set_option linter.unusedVariables false

theorem o3 : Opens Try.prog 3 (Kd.int .i64) (fun x : Int => (Lit.int .i64 x).wf = true) := by
  have h := Opens.int Try.underlying3 (by kernel_rfl)
  exact h
theorem o9 : Opens Try.prog 9 Kd.string (fun x : ByteArray => x.size ≤ 9223372036854775807) := by
  have h := Opens.string Try.underlying9 (by kernel_rfl)
  exact h
theorem o45 : Opens Try.prog 45 k45 (fun x : S45 => ((Lit.int .i64 x.f0).wf = true) ∧ ((Lit.int .i64 x.f1).wf = true) ∧ (x.f2.size ≤ 9223372036854775807)) := by
  have h := Opens.iso (Opens.struct Try.underlying45 (OpensF.cons o3 rfl (OpensF.cons o3 rfl (OpensF.one o9 rfl))) (by kernel_rfl)) (fun x : S45 => (x.f0, x.f1, x.f2)) (fun a => ⟨a.1, a.2.1, a.2.2⟩) (fun _ => rfl)
  exact h
theorem o71 : Opens Try.prog 71 (Kd.slice 45 k45) (fun x : List (S45) => (x : List (S45)).length ≤ 9223372036854775807 ∧ ∀ y : S45, y ∈ x → ((Lit.int .i64 y.f0).wf = true) ∧ ((Lit.int .i64 y.f1).wf = true) ∧ (y.f2.size ≤ 9223372036854775807)) := by
  have h := Opens.slice Try.underlying71 o45 (by kernel_rfl)
  exact h
theorem ot73 : Opens Try.prog 73 (Kd.pair (Kd.int .i64) (Kd.pair (Kd.int .i64) (Kd.slice 45 k45))) (fun x : (Int) × (Int) × (List (S45)) => ((Lit.int .i64 x.1).wf = true) ∧ ((Lit.int .i64 x.2.1).wf = true) ∧ ((x.2.2 : List (S45)).length ≤ 9223372036854775807 ∧ ∀ y : S45, y ∈ x.2.2 → ((Lit.int .i64 y.f0).wf = true) ∧ ((Lit.int .i64 y.f1).wf = true) ∧ (y.f2.size ≤ 9223372036854775807))) := by
  have h := Opens.struct Try.underlying73 (OpensF.cons o3 rfl (OpensF.cons o3 rfl (OpensF.one o71 rfl))) (by kernel_rfl)
  exact h
theorem ot98 : Opens Try.prog 98 (Kd.pair (Kd.int .i64) (Kd.pair (Kd.int .i64) (Kd.pair (Kd.int .i64) (Kd.pair (Kd.int .i64) (Kd.pair (Kd.int .i64) (Kd.slice 45 k45)))))) (fun x : (Int) × (Int) × (Int) × ((Int) × (Int) × (List (S45))) => ((Lit.int .i64 x.1).wf = true) ∧ ((Lit.int .i64 x.2.1).wf = true) ∧ ((Lit.int .i64 x.2.2.1).wf = true) ∧ (((Lit.int .i64 x.2.2.2.1).wf = true) ∧ ((Lit.int .i64 x.2.2.2.2.1).wf = true) ∧ ((x.2.2.2.2.2 : List (S45)).length ≤ 9223372036854775807 ∧ ∀ y : S45, y ∈ x.2.2.2.2.2 → ((Lit.int .i64 y.f0).wf = true) ∧ ((Lit.int .i64 y.f1).wf = true) ∧ (y.f2.size ≤ 9223372036854775807)))) := by
  have h := Opens.struct Try.underlying98 (OpensF.cons o3 rfl (OpensF.cons o3 rfl (OpensF.cons o3 rfl (OpensF.one ot73 rfl)))) (by kernel_rfl)
  exact h

/-- To be proved: plain values alone. -/
def Stmt : Prop := ∀ (a0_0 : Int) (a0_1 : Int) (a0_2 : Int) (a0_3 : Int) (a0_4 : Int) (l0_5 : List (S45)), ((Lit.int .i64 a0_0).wf = true) → ((Lit.int .i64 a0_1).wf = true) → ((Lit.int .i64 a0_2).wf = true) → ((Lit.int .i64 a0_3).wf = true) → ((Lit.int .i64 a0_4).wf = true) → ((l0_5 : List (S45)).length ≤ 9223372036854775807 ∧ ∀ y : S45, y ∈ l0_5 → ((Lit.int .i64 y.f0).wf = true) ∧ ((Lit.int .i64 y.f1).wf = true) ∧ (y.f2.size ≤ 9223372036854775807)) → ∃ k, laws_FnExactJournalOk.f k a0_0 a0_1 a0_2 a0_3 a0_4 l0_5 = some true

end Go.Proofs.Ytnnpbkocfboalaa.OpenFnExactJournalOk
