/- How the arguments of FnExactShedActs are opened, and what is to be proved of plain values: on every input of these forms the law's plain function answers true. -/
import Derived.Test.YtogifkjkbfdocaaGreatDoorQFnExactShedActsx19
import Derived.Test.YtogifkjkbfdocaaGreatDoorBaseO
import Derived.KernelRfl
namespace Go.Proofs.YtogifkjkbfdocaaGreatDoor.OpenFnExactShedActs
open Go.RowKit Go.Proofs.YtogifkjkbfdocaaGreatDoor.QFnExactShedActs Go.Proofs.YtogifkjkbfdocaaGreatDoorW.PrintWords Go.Proofs.YtogifkjkbfdocaaGreatDoorW.PrintLast Go.Proofs.YtogifkjkbfdocaaGreatDoorW.PrintMore Go.Proofs.YtogifkjkbfdocaaGreatDoor.Base
set_option linter.unusedVariables false

theorem o9 : Opens Tryz.prog 9 Kd.string (fun x : ByteArray => x.size ≤ 9223372036854775807) := by
  have h := Opens.string Tryz.underlying9 (by kernel_rfl)
  exact h
theorem o3 : Opens Tryz.prog 3 (Kd.int .i64) (fun x : Int => (Lit.int .i64 x).wf = true) := by
  have h := Opens.int Tryz.underlying3 (by kernel_rfl)
  exact h
theorem o90 : Opens Tryz.prog 90 k90 (fun x : S90 => (x.f0.size ≤ 9223372036854775807) ∧ (x.f1.size ≤ 9223372036854775807) ∧ ((Lit.int .i64 x.f2).wf = true)) := by
  have h := Opens.iso (Opens.struct Tryz.underlying90 (OpensF.cons o9 rfl (OpensF.cons o9 rfl (OpensF.one o3 rfl))) (by kernel_rfl)) (fun x : S90 => (x.f0, x.f1, x.f2)) (fun a => ⟨a.1, a.2.1, a.2.2⟩) (fun _ => rfl)
  exact h
theorem o22 : Opens Tryz.prog 22 (Kd.slice 90 k90) (fun x : List (S90) => (x : List (S90)).length ≤ 9223372036854775807 ∧ ∀ y : S90, y ∈ x → (y.f0.size ≤ 9223372036854775807) ∧ (y.f1.size ≤ 9223372036854775807) ∧ ((Lit.int .i64 y.f2).wf = true)) := by
  have h := Opens.slice Tryz.underlying22 o90 (by kernel_rfl)
  exact h
theorem ot24 : Opens Tryz.prog 24 (Kd.slice 90 k90) (fun x : (List (S90)) => ((x : List (S90)).length ≤ 9223372036854775807 ∧ ∀ y : S90, y ∈ x → (y.f0.size ≤ 9223372036854775807) ∧ (y.f1.size ≤ 9223372036854775807) ∧ ((Lit.int .i64 y.f2).wf = true))) := by
  have h := Opens.struct Tryz.underlying24 (OpensF.one o22 rfl) (by kernel_rfl)
  exact h

/-- To be proved: plain values alone. -/
def Stmt : Prop := ∀ (l0_0 : List (S90)), ((l0_0 : List (S90)).length ≤ 9223372036854775807 ∧ ∀ y : S90, y ∈ l0_0 → (y.f0.size ≤ 9223372036854775807) ∧ (y.f1.size ≤ 9223372036854775807) ∧ ((Lit.int .i64 y.f2).wf = true)) → ∃ k, laws_FnExactShedActs.f k l0_0 = some true

end Go.Proofs.YtogifkjkbfdocaaGreatDoor.OpenFnExactShedActs
