/- How the arguments of FnExactSnapActs are opened, and what is to be proved of plain values: on every input of these forms the law's plain function answers true. -/
import Derived.Test.YtogifkjkbfdocaaGreatDoorQFnExactSnapActsx17
import Derived.Test.YtogifkjkbfdocaaGreatDoorBaseO
import Derived.KernelRfl
namespace Go.Proofs.YtogifkjkbfdocaaGreatDoor.OpenFnExactSnapActs
open Go.RowKit Go.Proofs.YtogifkjkbfdocaaGreatDoor.QFnExactSnapActs Go.Proofs.YtogifkjkbfdocaaGreatDoorW.PrintWords Go.Proofs.YtogifkjkbfdocaaGreatDoorW.PrintLast Go.Proofs.YtogifkjkbfdocaaGreatDoorW.PrintMore Go.Proofs.YtogifkjkbfdocaaGreatDoor.Base
set_option linter.unusedVariables false

theorem o9 : Opens Tryz.prog 9 Kd.string (fun x : ByteArray => x.size ≤ 9223372036854775807) := by
  have h := Opens.string Tryz.underlying9 (by kernel_rfl)
  exact h
theorem o3 : Opens Tryz.prog 3 (Kd.int .i64) (fun x : Int => (Lit.int .i64 x).wf = true) := by
  have h := Opens.int Tryz.underlying3 (by kernel_rfl)
  exact h
theorem o90 : Opens Tryz.prog 90 k90 (fun x : S90 => (x.f0.size ≤ 9223372036854775807) ∧ (x.f1.size ≤ 9223372036854775807) ∧ ((Lit.int .i64 x.f2).wf = true)) := by
  have h := Opens.iso (Opens.struct Tryz.underlying90 (OpensF.cons o9 rfl (OpensF.cons o9 rfl (OpensF.one o3 rfl))) (by kernel_rfl)) (fun x : S90 => (x.f0, x.f1, x.f2)) (fun a => ⟨a.1, a.2.1, a.2.2⟩) (fun _ => rfl)
  exact h
theorem o22 : Opens Tryz.prog 22 (Kd.slice 90 k90) (fun x : List (S90) => (x : List (S90)).length ≤ 9223372036854775807 ∧ ∀ y : S90, y ∈ x → (y.f0.size ≤ 9223372036854775807) ∧ (y.f1.size ≤ 9223372036854775807) ∧ ((Lit.int .i64 y.f2).wf = true)) := by
  have h := Opens.slice Tryz.underlying22 o90 (by kernel_rfl)
  exact h
theorem ot24 : Opens Tryz.prog 24 (Kd.slice 90 k90) (fun x : (List (S90)) => ((x : List (S90)).length ≤ 9223372036854775807 ∧ ∀ y : S90, y ∈ x → (y.f0.size ≤ 9223372036854775807) ∧ (y.f1.size ≤ 9223372036854775807) ∧ ((Lit.int .i64 y.f2).wf = true))) := by
  have h := Opens.struct Tryz.underlying24 (OpensF.one o22 rfl) (by kernel_rfl)
  exact h
theorem o46 : Opens Tryz.prog 46 (Kd.slice 3 (Kd.int .i64)) (fun x : List (Int) => (x : List (Int)).length ≤ 9223372036854775807 ∧ ∀ y : Int, y ∈ x → (Lit.int .i64 y).wf = true) := by
  have h := Opens.slice Tryz.underlying46 o3 (by kernel_rfl)
  exact h
theorem ot48 : Opens Tryz.prog 48 (Kd.pair (Kd.int .i64) (Kd.pair (Kd.int .i64) (Kd.pair (Kd.slice 3 (Kd.int .i64)) Kd.string))) (fun x : (Int) × (Int) × (List (Int)) × (ByteArray) => ((Lit.int .i64 x.1).wf = true) ∧ ((Lit.int .i64 x.2.1).wf = true) ∧ ((x.2.2.1 : List (Int)).length ≤ 9223372036854775807 ∧ ∀ y : Int, y ∈ x.2.2.1 → (Lit.int .i64 y).wf = true) ∧ (x.2.2.2.size ≤ 9223372036854775807)) := by
  have h := Opens.struct Tryz.underlying48 (OpensF.cons o3 rfl (OpensF.cons o3 rfl (OpensF.cons o46 rfl (OpensF.one o9 rfl)))) (by kernel_rfl)
  exact h

/-- To be proved: plain values alone. -/
def Stmt : Prop := ∀ (l0_0 : List (S90)) (a1_0 : Int) (a1_1 : Int) (l1_2 : List Int) (a1_3 : ByteArray), ((l0_0 : List (S90)).length ≤ 9223372036854775807 ∧ ∀ y : S90, y ∈ l0_0 → (y.f0.size ≤ 9223372036854775807) ∧ (y.f1.size ≤ 9223372036854775807) ∧ ((Lit.int .i64 y.f2).wf = true)) → ((Lit.int .i64 a1_0).wf = true) → ((Lit.int .i64 a1_1).wf = true) → ((l1_2 : List (Int)).length ≤ 9223372036854775807 ∧ ∀ y : Int, y ∈ l1_2 → (Lit.int .i64 y).wf = true) → (a1_3.size ≤ 9223372036854775807) → ∃ k, laws_FnExactSnapActs.f k l0_0 a1_0 a1_1 l1_2 a1_3 = some true

end Go.Proofs.YtogifkjkbfdocaaGreatDoor.OpenFnExactSnapActs
