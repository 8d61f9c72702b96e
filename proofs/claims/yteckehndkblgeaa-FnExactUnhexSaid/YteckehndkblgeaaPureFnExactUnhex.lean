/- Unhex of the program and of the reference answer the same for every text. -/
import Derived.Test.YteckehndkblgeaaQFnExactUnhexx1
import Derived.Test.YteckehndkblgeaaBase
namespace Go.Proofs.Yteckehndkblgeaa.Pure
open Go.RowKit Go.Proofs.Yteckehndkblgeaa.QFnExactUnhex Go.Proofs.YteckehndkblgeaaW.PrintWords Go.Proofs.YteckehndkblgeaaW.PrintLast Go.Proofs.YteckehndkblgeaaW.PrintMore Go.Proofs.Yteckehndkblgeaa.Base
set_option linter.unusedVariables false
set_option linter.unusedSimpArgs false


def hexVal (b : Int) : Int := Lib.indexByte (⟨#[48, 49, 50, 51, 52, 53, 54, 55, 56, 57, 97, 98, 99, 100, 101, 102]⟩ : ByteArray).data.toList b.toNat.toUInt8
def hexSpec (b : Int) : Int := if 48 ≤ b ∧ b ≤ 57 then b - 48 else if 97 ≤ b ∧ b ≤ 102 then b - 87 else -1
theorem hex_fin : ∀ b : Fin 256, hexSpec (b.val : Int) = hexVal (b.val : Int) := by decide +kernel
theorem hex_same (b : Int) (h0 : 0 ≤ b) (h1 : b < 256) : hexSpec b = hexVal b := by
  have := hex_fin ⟨b.toNat, by omega⟩
  rwa [show ((⟨b.toNat, by omega⟩ : Fin 256).val : Int) = b by show (b.toNat : Int) = b; omega] at this
theorem spec_l01Value_ev (b : Int) (h0 : 0 ≤ b) (h1 : b < 256) : Ev (fun k => spec_l01Value.f k b) (hexVal b) := by
  rw [← hex_same b h0 h1]
  have e0 : wrap64 b = b := w64 (by omega) (by omega)
  have e1 : wrap64 (b - 48) = b - 48 := w64 (by omega) (by omega)
  have e2 : wrap64 (b - 97) = b - 97 := w64 (by omega) (by omega)
  have e3 : wrap64 (b - 97 + 10) = b - 97 + 10 := w64 (by omega) (by omega)
  have v1 : 48 ≤ b ∧ b ≤ 57 → hexSpec b = b - 48 := fun h => by rw [hexSpec, if_pos h]
  have v2 : 97 ≤ b ∧ b ≤ 102 → hexSpec b = b - 97 + 10 := fun h => by rw [hexSpec, if_neg (by omega), if_pos h]; omega
  have v3 : ¬ (48 ≤ b ∧ b ≤ 57) → ¬ (97 ≤ b ∧ b ≤ 102) → hexSpec b = -1 := fun h h' => by rw [hexSpec, if_neg h, if_neg h']
  have hj : ∀ x, (x = true → 48 ≤ b ∧ b ≤ 57) → (x = false → ¬ (48 ≤ b ∧ b ≤ 57)) → Ev (fun k => spec_l01Value.j0 k b x) (hexSpec b) := by
    intro x hx hy
    apply ev_succ
    cases x
    · simp only [spec_l01Value.j0, Bool.false_eq_true, if_false, e0, e2, e3]
      have hn := hy rfl
      by_cases a3 : b ≥ 97
      · by_cases a4 : b ≤ 102
        · simp only [a3, a4, if_true]
          exact ev_some (v2 ⟨a3, a4⟩).symm
        · simp only [a3, a4, if_true, if_false]
          exact ev_some (v3 hn (fun h => a4 h.2)).symm
      · simp only [a3, if_false]
        exact ev_some (v3 hn (fun h => a3 h.1)).symm
    · simp only [spec_l01Value.j0, if_true, e0, e1]
      exact ev_some (v1 (hx rfl)).symm
  by_cases a1 : b ≥ 48
  · simp only [spec_l01Value.f, a1, if_true]
    refine hj _ (fun h => ⟨a1, of_decide_eq_true h⟩) (fun h h' => of_decide_eq_false h h'.2)
  · simp only [spec_l01Value.f, a1, if_false]
    exact hj _ (fun h => by cases h) (fun _ h' => a1 h'.1)
def pUnL (t : ByteArray) : Nat → Int → List Int → ByteArray × Bool
  | 0, _, out => (strOfNums out, true)
  | d + 1, i, out => if hexVal (bt t i) < 0 then (⟨#[]⟩, false) else if hexVal (bt t (i + 1)) < 0 then (⟨#[]⟩, false) else pUnL t d (i + 2) (out ++ [wrap64 (wrap64 (16 * hexVal (bt t i)) + hexVal (bt t (i + 1))) % 256])
def pUnhex (t : ByteArray) : ByteArray × Bool := if t.size % 2 = 0 ∧ t.size ≤ 40000 then pUnL t (t.size / 2) 0 [] else (⟨#[]⟩, false)
theorem bt_in (t : ByteArray) (i : Int) : 0 ≤ bt t i ∧ bt t i < 256 := by
  unfold bt
  split
  · rename_i h
    have := UInt8.toNat_lt (t[i.toNat]'h)
    constructor <;> omega
  · constructor <;> omega
theorem idx_eq (b : Int) : strings_IndexByte.f (⟨#[48, 49, 50, 51, 52, 53, 54, 55, 56, 57, 97, 98, 99, 100, 101, 102]⟩ : ByteArray) b = some (hexVal b) := rfl
theorem impl_Unhex_l0 (t : ByteArray) (ht : t.size ≤ 40000) : ∀ (d : Nat) (i : Int) (out : List Int), 0 ≤ i → i + 2 * d = t.size → (out.length : Int) ≤ i → Ev (fun k => impl_Unhex.l0 k t out i) (pUnL t d i out) := by
  intro d
  induction d with
  | zero =>
    intro i out h0 h ho
    apply ev_succ
    have c : ¬ i < (t.size : Int) := by omega
    simp only [impl_Unhex.l0, c, if_false, pUnL]
    exact Ev.now _
  | succ d ih =>
    intro i out h0 h ho
    apply ev_succ
    have c : i < (t.size : Int) := by omega
    have e1 : wrap64 (i + 1) = i + 1 := w64 (by omega) (by omega)
    have e2 : wrap64 (i + 2) = i + 2 := w64 (by omega) (by omega)
    have c1 : 0 ≤ i + 1 := by omega
    have c2 : i + 1 < (t.size : Int) := by omega
    have c3 : out.length < 140737488355328 := by omega
    have hh := ih (i + 2) (out ++ [wrap64 (wrap64 (16 * hexVal (bt t i)) + hexVal (bt t (i + 1))) % 256]) (by omega) (by omega) (by rw [List.length_append, List.length_singleton]; omega)
    simp only [impl_Unhex.l0, idx_eq, c, h0, if_true, Option.bind_some, e1, e2, c1, c2, c3, pUnL]
    by_cases a1 : hexVal (bt t i) < 0
    · simp only [a1, if_true]
      exact Ev.now _
    · by_cases a2 : hexVal (bt t (i + 1)) < 0
      · simp only [a1, a2, if_true, if_false]
        exact Ev.now _
      · simp only [a1, a2, if_false]
        exact hh
theorem spec_Unhex_l0 (t : ByteArray) (ht : t.size ≤ 40000) : ∀ (d : Nat) (i : Int) (out : List Int), 0 ≤ i → i + 2 * d = t.size → (out.length : Int) ≤ i → Ev (fun k => spec_Unhex.l0 k t out i) (pUnL t d i out) := by
  intro d
  induction d with
  | zero =>
    intro i out h0 h ho
    apply ev_succ
    have c : ¬ i < (t.size : Int) := by omega
    simp only [spec_Unhex.l0, c, if_false, pUnL]
    exact Ev.now _
  | succ d ih =>
    intro i out h0 h ho
    apply ev_succ
    have c : i < (t.size : Int) := by omega
    have e1 : wrap64 (i + 1) = i + 1 := w64 (by omega) (by omega)
    have e2 : wrap64 (i + 2) = i + 2 := w64 (by omega) (by omega)
    have c1 : 0 ≤ i + 1 := by omega
    have c2 : i + 1 < (t.size : Int) := by omega
    have c3 : out.length < 140737488355328 := by omega
    have hh := ih (i + 2) (out ++ [wrap64 (wrap64 (16 * hexVal (bt t i)) + hexVal (bt t (i + 1))) % 256]) (by omega) (by omega) (by rw [List.length_append, List.length_singleton]; omega)
    have b1 := bt_in t i
    have b2 := bt_in t (i + 1)
    simp only [spec_Unhex.l0, c, h0, if_true, e1, e2, c1, c2, c3, pUnL]
    refine Ev.bind (spec_l01Value_ev _ b1.1 b1.2) ?_
    refine Ev.bind (spec_l01Value_ev _ b2.1 b2.2) ?_
    by_cases a1 : hexVal (bt t i) < 0
    · simp only [a1, if_true]
      exact Ev.now _
    · by_cases a2 : hexVal (bt t (i + 1)) < 0
      · simp only [a1, a2, if_true, if_false]
        exact Ev.now _
      · simp only [a1, a2, if_false]
        exact hh
theorem impl_Unhex_ev (t : ByteArray) : Ev (fun k => impl_Unhex.f k t) (pUnhex t) := by
  by_cases c : ((t.size : Int) % 2) = 0
  · simp only [impl_Unhex.f, c, if_true]
    apply ev_succ
    by_cases c2 : (t.size : Int) > 40000
    · simp only [impl_Unhex.j0, c2, decide_true, if_true]
      rw [pUnhex, if_neg (by omega)]
      exact Ev.now _
    · simp only [impl_Unhex.j0, c2, decide_false, Bool.false_eq_true, if_false]
      rw [pUnhex, if_pos (by omega)]
      exact impl_Unhex_l0 t (by omega) _ 0 [] (by omega) (by omega) (by simp)
  · simp only [impl_Unhex.f, c, if_false]
    apply ev_succ
    simp only [impl_Unhex.j0, if_true]
    rw [pUnhex, if_neg (by omega)]
    exact Ev.now _
theorem spec_Unhex_ev (t : ByteArray) : Ev (fun k => spec_Unhex.f k t) (pUnhex t) := by
  by_cases c2 : (t.size : Int) > 40000
  · simp only [spec_Unhex.f, c2, if_true]
    apply ev_succ
    simp only [spec_Unhex.j0, if_true]
    rw [pUnhex, if_neg (by omega)]
    exact Ev.now _
  · simp only [spec_Unhex.f, c2, if_false]
    apply ev_succ
    by_cases c : ((t.size : Int) % 2) = 0
    · simp only [spec_Unhex.j0, c, bne_self_eq_false, Bool.false_eq_true, if_false]
      rw [pUnhex, if_pos (by omega)]
      exact spec_Unhex_l0 t (by omega) _ 0 [] (by omega) (by omega) (by simp)
    · have cb : (((t.size : Int) % 2) != 0) = true := by simpa using c
      simp only [spec_Unhex.j0, cb, if_true]
      rw [pUnhex, if_neg (by omega)]
      exact Ev.now _
theorem FnExactUnhex : laws_FnExactUnhex.Pure := by
  intro t ht
  apply ev_rounds
  simp only [laws_FnExactUnhex.f]
  by_cases c : (t.size : Int) > 1048576
  · simp only [c, if_true]
    exact Ev.now _
  · simp only [c, if_false]
    refine Ev.bind (spec_Unhex_ev t) ?_
    refine Ev.bind (impl_Unhex_ev t) ?_
    simp

end Go.Proofs.Yteckehndkblgeaa.Pure
