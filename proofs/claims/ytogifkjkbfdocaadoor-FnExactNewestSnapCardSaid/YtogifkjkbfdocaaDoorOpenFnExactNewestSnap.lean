/- How the arguments of FnExactNewestSnap are opened, and what is to be proved of plain values: on every input of these forms the law's plain function answers true. -/
import Derived.Test.YtogifkjkbfdocaaDoorQFnExactNewestSnapx15
import Derived.Test.YtogifkjkbfdocaaDoorBaseO
import Derived.KernelRfl
namespace Go.Proofs.YtogifkjkbfdocaaDoor.OpenFnExactNewestSnap
open Go.RowKit Go.Proofs.YtogifkjkbfdocaaDoor.QFnExactNewestSnap Go.Proofs.YtogifkjkbfdocaaDoorW.PrintWords Go.Proofs.YtogifkjkbfdocaaDoorW.PrintLast Go.Proofs.YtogifkjkbfdocaaDoorW.PrintMore Go.Proofs.YtogifkjkbfdocaaDoor.Base
set_option linter.unusedVariables false

theorem o9 : Opens Tryd.prog 9 Kd.string (fun x : ByteArray => x.size ≤ 9223372036854775807) := by
  have h := Opens.string Tryd.underlying9 (by kernel_rfl)
  exact h
theorem o3 : Opens Tryd.prog 3 (Kd.int .i64) (fun x : Int => (Lit.int .i64 x).wf = true) := by
  have h := Opens.int Tryd.underlying3 (by kernel_rfl)
  exact h
theorem o93 : Opens Tryd.prog 93 k93 (fun x : S93 => (x.f0.size ≤ 9223372036854775807) ∧ (x.f1.size ≤ 9223372036854775807) ∧ ((Lit.int .i64 x.f2).wf = true)) := by
  have h := Opens.iso (Opens.struct Tryd.underlying93 (OpensF.cons o9 rfl (OpensF.cons o9 rfl (OpensF.one o3 rfl))) (by kernel_rfl)) (fun x : S93 => (x.f0, x.f1, x.f2)) (fun a => ⟨a.1, a.2.1, a.2.2⟩) (fun _ => rfl)
  exact h
theorem o42 : Opens Tryd.prog 42 (Kd.slice 93 k93) (fun x : List (S93) => (x : List (S93)).length ≤ 9223372036854775807 ∧ ∀ y : S93, y ∈ x → (y.f0.size ≤ 9223372036854775807) ∧ (y.f1.size ≤ 9223372036854775807) ∧ ((Lit.int .i64 y.f2).wf = true)) := by
  have h := Opens.slice Tryd.underlying42 o93 (by kernel_rfl)
  exact h
theorem ot44 : Opens Tryd.prog 44 (Kd.slice 93 k93) (fun x : (List (S93)) => ((x : List (S93)).length ≤ 9223372036854775807 ∧ ∀ y : S93, y ∈ x → (y.f0.size ≤ 9223372036854775807) ∧ (y.f1.size ≤ 9223372036854775807) ∧ ((Lit.int .i64 y.f2).wf = true))) := by
  have h := Opens.struct Tryd.underlying44 (OpensF.one o42 rfl) (by kernel_rfl)
  exact h

/-- To be proved: plain values alone. -/
def Stmt : Prop := ∀ (l0_0 : List (S93)), ((l0_0 : List (S93)).length ≤ 9223372036854775807 ∧ ∀ y : S93, y ∈ l0_0 → (y.f0.size ≤ 9223372036854775807) ∧ (y.f1.size ≤ 9223372036854775807) ∧ ((Lit.int .i64 y.f2).wf = true)) → ∃ k, laws_FnExactNewestSnap.f k l0_0 = some true

end Go.Proofs.YtogifkjkbfdocaaDoor.OpenFnExactNewestSnap
