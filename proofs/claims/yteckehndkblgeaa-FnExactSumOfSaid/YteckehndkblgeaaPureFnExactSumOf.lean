/- SumOf of the program and of the reference give one sum for every text. -/
import Derived.Test.YteckehndkblgeaaPFnExactSumOfx1
import Derived.Test.YteckehndkblgeaaBase
namespace Go.Proofs.Yteckehndkblgeaa.Pure
open Go.RowKit Go.Proofs.Yteckehndkblgeaa.PFnExactSumOf Go.Proofs.YteckehndkblgeaaW.PrintWords Go.Proofs.YteckehndkblgeaaW.PrintLast Go.Proofs.YteckehndkblgeaaW.PrintMore Go.Proofs.Yteckehndkblgeaa.Base
set_option linter.unusedVariables false
set_option linter.unusedSimpArgs false

theorem impl_SumMore_l1 (s : ByteArray) (i : Int) (h0 : 0 ≤ i) (h1 : i < s.size) (hs : s.size ≤ 140737488351232) (r : Int) : ∀ (m : Nat) (j x : Int), 0 ≤ j → j + m = 8 →
    Ev (fun k => impl_SumMore.l0 k (crcK m x) s (i + 1)) r → Ev (fun k => impl_SumMore.l1 k x s i j) r := by
  intro m
  induction m with
  | zero =>
    intro j x hj hm h
    apply ev_succ
    have c : ¬ j < 8 := by omega
    have e : wrap64 (i + 1) = i + 1 := w64 (by omega) (by omega)
    simp only [impl_SumMore.l1, c, if_false, e]
    exact h
  | succ m ih =>
    intro j x hj hm h
    apply ev_succ
    have c : j < 8 := by omega
    have e : wrap64 (j + 1) = j + 1 := w64 (by omega) (by omega)
    have hh := ih (j + 1) (crc1 x) (by omega) (by omega) h
    by_cases o : Int.tmod x 2 = 1
    · simp only [crc1, o, if_true] at hh
      simp only [impl_SumMore.l1, c, o, if_true, e]
      exact hh
    · simp only [crc1, o, if_false] at hh
      simp only [impl_SumMore.l1, c, o, if_true, if_false, e]
      exact hh
theorem impl_SumMore_l0 (s : ByteArray) (hs : s.size ≤ 140737488351232) : ∀ (d : Nat) (i : Int) (x : Int), 0 ≤ i → i + d = s.size →
    Ev (fun k => impl_SumMore.l0 k x s i) (crcL x ((bytesOf s).drop i.toNat)) := by
  intro d
  induction d with
  | zero =>
    intro i x h0 h
    apply ev_succ
    have c : ¬ i < (s.size : Int) := by omega
    simp only [impl_SumMore.l0, c, if_false]
    apply ev_some
    rw [List.drop_of_length_le (by rw [bytes_len]; omega)]; rfl
  | succ d ih =>
    intro i x h0 h
    apply ev_succ
    have c : i < (s.size : Int) := by omega
    simp only [impl_SumMore.l0, c, h0, if_true]
    have hh := ih (i + 1) (crcB x (bt s i)) (by omega) (by omega)
    rw [drop_bt s i h0 c]
    exact impl_SumMore_l1 s i h0 c hs _ 8 0 _ (by omega) (by omega) hh
theorem impl_SumMore_ev (x : Int) (s : ByteArray) (hs : s.size ≤ 140737488351232) : Ev (fun k => impl_SumMore.f k x s) (crcL x (bytesOf s)) := by
  simp only [impl_SumMore.f]
  exact impl_SumMore_l0 s hs s.size 0 x (by omega) (by omega)

theorem impl_SumOf_ev (s : ByteArray) (hs : s.size ≤ 140737488351232) : Ev (fun k => impl_SumOf.f k s) (sumN s) := by
  simp only [impl_SumOf.f]
  exact Ev.bind (impl_SumMore_ev _ s hs) (Ev.now _)

theorem spec_SumMore_l1 (s : ByteArray) (i : Int) (h0 : 0 ≤ i) (h1 : i < s.size) (hs : s.size ≤ 140737488351232) (r : Int) : ∀ (m : Nat) (j x : Int), 0 ≤ j → j + m = 8 →
    Ev (fun k => spec_SumMore.l0 k (crcK m x) s (i + 1)) r → Ev (fun k => spec_SumMore.l1 k x s i j) r := by
  intro m
  induction m with
  | zero =>
    intro j x hj hm h
    apply ev_succ
    have c : ¬ j < 8 := by omega
    have e : wrap64 (i + 1) = i + 1 := w64 (by omega) (by omega)
    simp only [spec_SumMore.l1, c, if_false, e]
    exact h
  | succ m ih =>
    intro j x hj hm h
    apply ev_succ
    have c : j < 8 := by omega
    have e : wrap64 (j + 1) = j + 1 := w64 (by omega) (by omega)
    have hh := ih (j + 1) (crc1 x) (by omega) (by omega) h
    by_cases o : Int.tmod x 2 = 1
    · simp only [crc1, o, if_true] at hh
      simp only [spec_SumMore.l1, c, o, if_true, e]
      exact hh
    · simp only [crc1, o, if_false] at hh
      simp only [spec_SumMore.l1, c, o, if_true, if_false, e]
      exact hh
theorem spec_SumMore_l0 (s : ByteArray) (hs : s.size ≤ 140737488351232) : ∀ (d : Nat) (i : Int) (x : Int), 0 ≤ i → i + d = s.size →
    Ev (fun k => spec_SumMore.l0 k x s i) (crcL x ((bytesOf s).drop i.toNat)) := by
  intro d
  induction d with
  | zero =>
    intro i x h0 h
    apply ev_succ
    have c : ¬ i < (s.size : Int) := by omega
    simp only [spec_SumMore.l0, c, if_false]
    apply ev_some
    rw [List.drop_of_length_le (by rw [bytes_len]; omega)]; rfl
  | succ d ih =>
    intro i x h0 h
    apply ev_succ
    have c : i < (s.size : Int) := by omega
    simp only [spec_SumMore.l0, c, h0, if_true]
    have hh := ih (i + 1) (crcB x (bt s i)) (by omega) (by omega)
    rw [drop_bt s i h0 c]
    exact spec_SumMore_l1 s i h0 c hs _ 8 0 _ (by omega) (by omega) hh
theorem spec_SumMore_ev (x : Int) (s : ByteArray) (hs : s.size ≤ 140737488351232) : Ev (fun k => spec_SumMore.f k x s) (crcL x (bytesOf s)) := by
  simp only [spec_SumMore.f]
  exact spec_SumMore_l0 s hs s.size 0 x (by omega) (by omega)

theorem spec_SumOf_ev (s : ByteArray) (hs : s.size ≤ 140737488351232) : Ev (fun k => spec_SumOf.f k s) (sumN s) := by
  simp only [spec_SumOf.f]
  exact Ev.bind (spec_SumMore_ev _ s hs) (Ev.now _)

theorem FnExactSumOf : laws_FnExactSumOf.Pure := by
  intro a0 h0
  apply ev_rounds
  simp only [laws_FnExactSumOf.f]
  by_cases c : (a0.size : Int) > 1048576
  · simp only [c, if_true]; exact Ev.now _
  · simp only [c, if_false]
    refine Ev.bind (spec_SumOf_ev a0 h0) ?_
    refine Ev.bind (impl_SumOf_ev a0 h0) ?_
    simp

end Go.Proofs.Yteckehndkblgeaa.Pure
