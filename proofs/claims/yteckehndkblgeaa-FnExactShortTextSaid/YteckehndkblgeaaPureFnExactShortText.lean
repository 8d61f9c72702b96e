/- ShortText of the program and of the reference give the same text and flag for every text. -/
import Derived.Test.YteckehndkblgeaaPFnExactShortTextx1
import Derived.Test.YteckehndkblgeaaBase
namespace Go.Proofs.Yteckehndkblgeaa.Pure
open Go.RowKit Go.Proofs.Yteckehndkblgeaa.PFnExactShortText Go.Proofs.YteckehndkblgeaaW.PrintWords Go.Proofs.YteckehndkblgeaaW.PrintLast Go.Proofs.YteckehndkblgeaaW.PrintMore Go.Proofs.Yteckehndkblgeaa.Base
set_option linter.unusedVariables false
set_option linter.unusedSimpArgs false

theorem impl_within_ev (a b c : Int) : Ev (fun _ => impl_within.f a b c) (decide (b ≤ a ∧ a ≤ c)) := by
  apply ev_const
  unfold impl_within.f
  by_cases h : a ≥ b
  · rw [if_pos h]; simp [show b ≤ a from h]
  · rw [if_neg h]; simp [show ¬ b ≤ a from h]

theorem impl_VarText_l0 (n : Nat) : ∀ xs : List Int, xs.length + n < 140737488355328 → Ev (fun k => impl_VarText.l0 k (n : Int) xs) (strOfNums (xs ++ varN n), true) := by
  induction n using Nat.strongRecOn with
  | ind n ih =>
    intro xs h
    apply ev_succ
    have c2 : xs.length < 140737488355328 := by omega
    by_cases hn : n ≤ 127
    · have c1 : ¬ (n : Int) > 127 := by omega
      simp only [impl_VarText.l0, c1, c2, if_true, if_false]
      apply ev_some
      rw [varN_small hn, show (n : Int) % 256 = n by omega]
    · have c1 : (n : Int) > 127 := by omega
      simp only [impl_VarText.l0, c1, c2, if_true, var_div n (by omega), var_mod n]
      have := ih (n / 128) (by omega) (xs ++ [((n % 128 + 128 : Nat) : Int)]) (by simp; omega)
      rw [varN_big hn]
      simpa using this
theorem impl_VarText_ev (n : Int) : Ev (fun k => impl_VarText.f k n) (pVarText n) := by
  simp only [impl_VarText.f]
  refine Ev.bind (impl_within_ev _ _ _) ?_
  by_cases h : 0 ≤ n ∧ n ≤ 1000000000
  · simp only [h, and_self, decide_true, if_true]
    obtain ⟨m, rfl⟩ := Int.eq_ofNat_of_zero_le h.1
    have := impl_VarText_l0 m [] (by simp; omega)
    rw [pVarText_yes h]
    simpa [varB] using this
  · simp only [h, decide_false, Bool.false_eq_true, if_false]
    rw [pVarText_no h]
    exact Ev.now _

theorem impl_ShortText_ev (s : ByteArray) (hs : s.size ≤ 140737488351232) : Ev (fun k => impl_ShortText.f k s) (pShortText s) := by
  simp only [impl_ShortText.f]
  by_cases h : (s.size : Int) > 20000
  · simp only [h, if_true]
    rw [pShortText_no (by omega)]
    exact Ev.now _
  · simp only [h, if_false]
    refine Ev.bind (impl_VarText_ev (s.size : Int)) ?_
    rw [pVarText_yes (by omega)]
    have hl := (varN_len s.size).2
    have c : (varB s.size).size + s.size ≤ 9223372036854775807 := by rw [varB, str_len]; omega
    simp only [Int.toNat_natCast, c, if_true]
    rw [pShortText_yes (by omega)]
    exact Ev.now _

theorem spec_l01Var_l0 (n : Nat) : ∀ xs : List Int, xs.length + n < 140737488355328 → Ev (fun k => spec_l01Var.l0 k (n : Int) xs) (strOfNums (xs ++ varN n)) := by
  induction n using Nat.strongRecOn with
  | ind n ih =>
    intro xs h
    apply ev_succ
    have c2 : xs.length < 140737488355328 := by omega
    by_cases hn : n ≤ 127
    · have c1 : ¬ (n : Int) > 127 := by omega
      simp only [spec_l01Var.l0, c1, c2, if_true, if_false]
      apply ev_some
      rw [varN_small hn, show (n : Int) % 256 = n by omega]
    · have c1 : (n : Int) > 127 := by omega
      simp only [spec_l01Var.l0, c1, c2, if_true, var_div n (by omega), var_mod n]
      have := ih (n / 128) (by omega) (xs ++ [((n % 128 + 128 : Nat) : Int)]) (by simp; omega)
      rw [varN_big hn]
      simpa using this
theorem spec_l01Var_ev (n : Nat) (h : n < 140737488355328) : Ev (fun k => spec_l01Var.f k (n : Int)) (varB n) := by
  simp only [spec_l01Var.f]
  have := spec_l01Var_l0 n [] (by simpa using h)
  simpa [varB] using this

theorem spec_ShortText_ev (s : ByteArray) (hs : s.size ≤ 140737488351232) : Ev (fun k => spec_ShortText.f k s) (pShortText s) := by
  simp only [spec_ShortText.f]
  by_cases h : (s.size : Int) > 20000
  · simp only [h, if_true]
    rw [pShortText_no (by omega)]
    exact Ev.now _
  · simp only [h, if_false]
    refine Ev.bind (spec_l01Var_ev s.size (by omega)) ?_
    have hl := (varN_len s.size).2
    have c : (varB s.size).size + s.size ≤ 9223372036854775807 := by rw [varB, str_len]; omega
    simp only [c, if_true]
    rw [pShortText_yes (by omega)]
    exact Ev.now _

theorem FnExactShortText : laws_FnExactShortText.Pure := by
  intro a0 h0
  apply ev_rounds
  simp only [laws_FnExactShortText.f]
  by_cases c : (a0.size : Int) > 1048576
  · simp only [c, if_true]; exact Ev.now _
  · simp only [c, if_false]
    refine Ev.bind (spec_ShortText_ev a0 h0) ?_
    refine Ev.bind (impl_ShortText_ev a0 h0) ?_
    simp

end Go.Proofs.Yteckehndkblgeaa.Pure
