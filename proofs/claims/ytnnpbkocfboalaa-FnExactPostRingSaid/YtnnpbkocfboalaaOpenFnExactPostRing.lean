/- How the arguments of FnExactPostRing are opened, and what is to be proved of plain values: on every input of these forms the law's plain function answers true. -/
import Derived.Test.YtnnpbkocfboalaaQFnExactPostRingx8
import Derived.Test.YtnnpbkocfboalaaBaseO
import Derived.KernelRfl
namespace Go.Proofs.Ytnnpbkocfboalaa.OpenFnExactPostRing
open Go.RowKit Go.Proofs.Ytnnpbkocfboalaa.QFnExactPostRing Go.Proofs.YtnnpbkocfboalaaW.PrintWords Go.Proofs.YtnnpbkocfboalaaW.PrintLast Go.Proofs.YtnnpbkocfboalaaW.PrintMore Go.Proofs.Ytnnpbkocfboalaa.Base
set_option linter.unusedVariables false

theorem o3 : Opens Try.prog 3 (Kd.int .i64) (fun x : Int => (Lit.int .i64 x).wf = true) := by
  have h := Opens.int Try.underlying3 (by kernel_rfl)
  exact h
theorem o9 : Opens Try.prog 9 Kd.string (fun x : ByteArray => x.size ≤ 9223372036854775807) := by
  have h := Opens.string Try.underlying9 (by kernel_rfl)
  exact h
theorem o167 : Opens Try.prog 167 k167 (fun x : S167 => ((Lit.int .i64 x.f0).wf = true) ∧ (x.f1.size ≤ 9223372036854775807)) := by
  have h := Opens.iso (Opens.struct Try.underlying167 (OpensF.cons o3 rfl (OpensF.one o9 rfl)) (by kernel_rfl)) (fun x : S167 => (x.f0, x.f1)) (fun a => ⟨a.1, a.2⟩) (fun _ => rfl)
  exact h
theorem o82 : Opens Try.prog 82 (Kd.slice 167 k167) (fun x : List (S167) => (x : List (S167)).length ≤ 9223372036854775807 ∧ ∀ y : S167, y ∈ x → ((Lit.int .i64 y.f0).wf = true) ∧ (y.f1.size ≤ 9223372036854775807)) := by
  have h := Opens.slice Try.underlying82 o167 (by kernel_rfl)
  exact h
theorem ot84 : Opens Try.prog 84 (Kd.pair (Kd.slice 167 k167) (Kd.pair (Kd.int .i64) (Kd.int .i64))) (fun x : (List (S167)) × (Int) × (Int) => ((x.1 : List (S167)).length ≤ 9223372036854775807 ∧ ∀ y : S167, y ∈ x.1 → ((Lit.int .i64 y.f0).wf = true) ∧ (y.f1.size ≤ 9223372036854775807)) ∧ ((Lit.int .i64 x.2.1).wf = true) ∧ ((Lit.int .i64 x.2.2).wf = true)) := by
  have h := Opens.struct Try.underlying84 (OpensF.cons o82 rfl (OpensF.cons o3 rfl (OpensF.one o3 rfl))) (by kernel_rfl)
  exact h

/-- To be proved: plain values alone. -/
def Stmt : Prop := ∀ (l0_0 : List (S167)) (a0_1 : Int) (a0_2 : Int) (a1 : ByteArray), ((l0_0 : List (S167)).length ≤ 9223372036854775807 ∧ ∀ y : S167, y ∈ l0_0 → ((Lit.int .i64 y.f0).wf = true) ∧ (y.f1.size ≤ 9223372036854775807)) → ((Lit.int .i64 a0_1).wf = true) → ((Lit.int .i64 a0_2).wf = true) → (a1.size ≤ 140737488351232) → ∃ k, laws_FnExactPostRing.f k l0_0 a0_1 a0_2 a1 = some true

end Go.Proofs.Ytnnpbkocfboalaa.OpenFnExactPostRing
