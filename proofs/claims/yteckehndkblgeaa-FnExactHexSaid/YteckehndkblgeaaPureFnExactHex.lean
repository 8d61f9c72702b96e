/- Hex of the program and of the reference give the same text and flag for every text. -/
import Derived.Test.YteckehndkblgeaaQFnExactHexx1
import Derived.Test.YteckehndkblgeaaBase
namespace Go.Proofs.Yteckehndkblgeaa.Pure
open Go.RowKit Go.Proofs.Yteckehndkblgeaa.QFnExactHex Go.Proofs.YteckehndkblgeaaW.PrintWords Go.Proofs.YteckehndkblgeaaW.PrintLast Go.Proofs.YteckehndkblgeaaW.PrintMore Go.Proofs.Yteckehndkblgeaa.Base
set_option linter.unusedVariables false
set_option linter.unusedSimpArgs false

theorem spec_l01Figure_ev (d : Int) (h0 : 0 ≤ d) (h1 : d < 16) : Ev (fun _ => spec_l01Figure.f d) (fig d) := by
  apply ev_const
  unfold spec_l01Figure.f
  rw [← fig_spec d h0 h1]
  split <;> rfl
theorem spec_Hex_l0 (s : ByteArray) (hs : s.size ≤ 20000) : ∀ (d : Nat) (i : Int) (xs : List Int), 0 ≤ i → i + d = s.size → xs.length + 2 * d ≤ 40000 →
    Ev (fun k => spec_Hex.l0 k s xs i) (strOfNums (xs ++ hexL ((bytesOf s).drop i.toNat)), true) := by
  intro d
  induction d with
  | zero =>
    intro i xs h0 h hx
    apply ev_succ
    have c : ¬ i < (s.size : Int) := by omega
    simp only [spec_Hex.l0, c, if_false]
    apply ev_some
    rw [List.drop_of_length_le (by rw [bytes_len]; omega)]; simp [hexL]
  | succ d ih =>
    intro i xs h0 h hx
    apply ev_succ
    have c : i < (s.size : Int) := by omega
    have br := bt_range s i
    have e1 : wrap64 (bt s i) = bt s i := w64 (by omega) (by omega)
    have e2 : Int.tdiv (bt s i) 16 = bt s i / 16 := Int.tdiv_eq_ediv_of_nonneg (by omega)
    have e3 : Int.tmod (bt s i) 16 = bt s i % 16 := Int.tmod_eq_emod_of_nonneg (by omega)
    have e4 : wrap64 (bt s i / 16) = bt s i / 16 := w64 (by omega) (by omega)
    have e5 : wrap64 (i + 1) = i + 1 := w64 (by omega) (by omega)
    simp only [spec_Hex.l0, c, h0, if_true, e1, e2, e3, e4, e5]
    refine Ev.bind (spec_l01Figure_ev _ (by omega) (by omega)) ?_
    refine Ev.bind (spec_l01Figure_ev _ (by omega) (by omega)) ?_
    have c2 : xs.length + [fig (bt s i / 16), fig (bt s i % 16)].length < 140737488355328 := by simp; omega
    simp only [Option.bind_some, c2, if_true]
    have hh := ih (i + 1) (xs ++ [fig (bt s i / 16), fig (bt s i % 16)]) (by omega) (by omega) (by simp; omega)
    rw [drop_bt s i h0 c]
    simpa [hexL] using hh
theorem spec_Hex_ev (s : ByteArray) : Ev (fun k => spec_Hex.f k s) (pHex s) := by
  simp only [spec_Hex.f]
  by_cases h : (s.size : Int) > 20000
  · simp only [h, if_true]
    rw [pHex_no (by omega)]
    exact Ev.now _
  · simp only [h, if_false]
    rw [pHex_yes (by omega)]
    simpa using spec_Hex_l0 s (by omega) s.size 0 [] (by omega) (by omega) (by simp; omega)
theorem impl_Hex_l0 (s : ByteArray) (hs : s.size ≤ 20000) : ∀ (d : Nat) (i : Int) (xs : List Int), 0 ≤ i → i + d = s.size → xs.length + 2 * d ≤ 40000 →
    Ev (fun k => impl_Hex.l0 k s xs i) (strOfNums (xs ++ hexL ((bytesOf s).drop i.toNat)), true) := by
  intro d
  induction d with
  | zero =>
    intro i xs h0 h hx
    apply ev_succ
    have c : ¬ i < (s.size : Int) := by omega
    simp only [impl_Hex.l0, c, if_false]
    apply ev_some
    rw [List.drop_of_length_le (by rw [bytes_len]; omega)]; simp [hexL]
  | succ d ih =>
    intro i xs h0 h hx
    apply ev_succ
    have c : i < (s.size : Int) := by omega
    have br := bt_range s i
    have e2 : Int.tdiv (bt s i) 16 = bt s i / 16 := Int.tdiv_eq_ediv_of_nonneg (by omega)
    have e3 : Int.tmod (bt s i) 16 = bt s i % 16 := Int.tmod_eq_emod_of_nonneg (by omega)
    have e4 : bt s i / 16 % 256 = bt s i / 16 := by omega
    have e5 : wrap64 (i + 1) = i + 1 := w64 (by omega) (by omega)
    have k1 : 0 ≤ bt s i / 16 := by omega
    have k2 : bt s i / 16 < 16 := by omega
    have k3 : 0 ≤ bt s i % 16 := by omega
    have k4 : bt s i % 16 < 16 := by omega
    have c2 : xs.length + [fig (bt s i / 16), fig (bt s i % 16)].length < 140737488355328 := by simp; omega
    simp only [impl_Hex.l0, c, h0, if_true, e2, e3, e4, e5, k1, k2, k3, k4, fig_impl _ k1 k2, fig_impl _ k3 k4, Option.bind_some, c2]
    have hh := ih (i + 1) (xs ++ [fig (bt s i / 16), fig (bt s i % 16)]) (by omega) (by omega) (by simp; omega)
    rw [drop_bt s i h0 c]
    simpa [hexL] using hh
theorem impl_Hex_ev (s : ByteArray) : Ev (fun k => impl_Hex.f k s) (pHex s) := by
  simp only [impl_Hex.f]
  by_cases h : (s.size : Int) > 20000
  · simp only [h, if_true]
    rw [pHex_no (by omega)]
    exact Ev.now _
  · simp only [h, if_false]
    rw [pHex_yes (by omega)]
    simpa using impl_Hex_l0 s (by omega) s.size 0 [] (by omega) (by omega) (by simp; omega)

theorem FnExactHex : laws_FnExactHex.Pure := by
  intro a0 h0
  apply ev_rounds
  simp only [laws_FnExactHex.f]
  by_cases c : (a0.size : Int) > 1048576
  · simp only [c, if_true]; exact Ev.now _
  · simp only [c, if_false]
    refine Ev.bind (spec_Hex_ev a0) ?_
    refine Ev.bind (impl_Hex_ev a0) ?_
    simp

end Go.Proofs.Yteckehndkblgeaa.Pure
