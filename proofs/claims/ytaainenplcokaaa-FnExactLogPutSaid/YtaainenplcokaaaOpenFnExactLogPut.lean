/- How the arguments of FnExactLogPut are opened, and what is to be proved of plain values: on every input of these forms the law's plain function answers true. -/
import Derived.Test.YtaainenplcokaaaQFnExactLogPutx8
import Derived.Test.YtaainenplcokaaaBaseO
import Derived.KernelRfl
namespace Go.Proofs.Ytaainenplcokaaa.OpenFnExactLogPut
open Go.RowKit Go.Proofs.Ytaainenplcokaaa.QFnExactLogPut Go.Proofs.YtaainenplcokaaaW.PrintWords Go.Proofs.YtaainenplcokaaaW.PrintLast Go.Proofs.YtaainenplcokaaaW.PrintMore Go.Proofs.Ytaainenplcokaaa.Base
set_option linter.unusedVariables false

theorem o3 : Opens Try.prog 3 (Kd.int .i64) (fun x : Int => (Lit.int .i64 x).wf = true) := by
  have h := Opens.int Try.underlying3 (by kernel_rfl)
  exact h
theorem o9 : Opens Try.prog 9 Kd.string (fun x : ByteArray => x.size ≤ 9223372036854775807) := by
  have h := Opens.string Try.underlying9 (by kernel_rfl)
  exact h
theorem o88 : Opens Try.prog 88 k88 (fun x : S88 => ((Lit.int .i64 x.f0).wf = true) ∧ ((Lit.int .i64 x.f1).wf = true) ∧ (x.f2.size ≤ 9223372036854775807)) := by
  have h := Opens.iso (Opens.struct Try.underlying88 (OpensF.cons o3 rfl (OpensF.cons o3 rfl (OpensF.one o9 rfl))) (by kernel_rfl)) (fun x : S88 => (x.f0, x.f1, x.f2)) (fun a => ⟨a.1, a.2.1, a.2.2⟩) (fun _ => rfl)
  exact h
theorem o76 : Opens Try.prog 76 (Kd.slice 88 k88) (fun x : List (S88) => (x : List (S88)).length ≤ 9223372036854775807 ∧ ∀ y : S88, y ∈ x → ((Lit.int .i64 y.f0).wf = true) ∧ ((Lit.int .i64 y.f1).wf = true) ∧ (y.f2.size ≤ 9223372036854775807)) := by
  have h := Opens.slice Try.underlying76 o88 (by kernel_rfl)
  exact h
theorem ot78 : Opens Try.prog 78 (Kd.pair (Kd.int .i64) (Kd.pair (Kd.int .i64) (Kd.slice 88 k88))) (fun x : (Int) × (Int) × (List (S88)) => ((Lit.int .i64 x.1).wf = true) ∧ ((Lit.int .i64 x.2.1).wf = true) ∧ ((x.2.2 : List (S88)).length ≤ 9223372036854775807 ∧ ∀ y : S88, y ∈ x.2.2 → ((Lit.int .i64 y.f0).wf = true) ∧ ((Lit.int .i64 y.f1).wf = true) ∧ (y.f2.size ≤ 9223372036854775807))) := by
  have h := Opens.struct Try.underlying78 (OpensF.cons o3 rfl (OpensF.cons o3 rfl (OpensF.one o76 rfl))) (by kernel_rfl)
  exact h
theorem ot88 : Opens Try.prog 88 (Kd.pair (Kd.int .i64) (Kd.pair (Kd.int .i64) Kd.string)) (fun x : (Int) × (Int) × (ByteArray) => ((Lit.int .i64 x.1).wf = true) ∧ ((Lit.int .i64 x.2.1).wf = true) ∧ (x.2.2.size ≤ 9223372036854775807)) := by
  have h := Opens.struct Try.underlying88 (OpensF.cons o3 rfl (OpensF.cons o3 rfl (OpensF.one o9 rfl))) (by kernel_rfl)
  exact h

/-- To be proved: plain values alone. -/
def Stmt : Prop := ∀ (a0_0 : Int) (a0_1 : Int) (l0_2 : List (S88)) (a1 : Int) (a2_0 : Int) (a2_1 : Int) (a2_2 : ByteArray), ((Lit.int .i64 a0_0).wf = true) → ((Lit.int .i64 a0_1).wf = true) → ((l0_2 : List (S88)).length ≤ 9223372036854775807 ∧ ∀ y : S88, y ∈ l0_2 → ((Lit.int .i64 y.f0).wf = true) ∧ ((Lit.int .i64 y.f1).wf = true) ∧ (y.f2.size ≤ 9223372036854775807)) → ((Lit.int .i64 a1).wf = true) → ((Lit.int .i64 a2_0).wf = true) → ((Lit.int .i64 a2_1).wf = true) → (a2_2.size ≤ 9223372036854775807) → ∃ k, laws_FnExactLogPut.f k a0_0 a0_1 l0_2 a1 a2_0 a2_1 a2_2 = some true

end Go.Proofs.Ytaainenplcokaaa.OpenFnExactLogPut
