/- Unsealed of the program and of the reference give the same text and flag for every text. -/
import Derived.Test.YteckehndkblgeaaPFnExactUnsealedx2
import Derived.Test.YteckehndkblgeaaBase
namespace Go.Proofs.Yteckehndkblgeaa.Pure
open Go.RowKit Go.Proofs.Yteckehndkblgeaa.PFnExactUnsealed Go.Proofs.YteckehndkblgeaaW.PrintWords Go.Proofs.YteckehndkblgeaaW.PrintLast Go.Proofs.YteckehndkblgeaaW.PrintMore Go.Proofs.Yteckehndkblgeaa.Base
set_option linter.unusedVariables false
set_option linter.unusedSimpArgs false

theorem impl_SumMore_l1 (s : ByteArray) (i : Int) (h0 : 0 ≤ i) (h1 : i < s.size) (hs : s.size ≤ 140737488351232) (r : Int) : ∀ (m : Nat) (j x : Int), 0 ≤ j → j + m = 8 →
    Ev (fun k => impl_SumMore.l0 k (crcK m x) s (i + 1)) r → Ev (fun k => impl_SumMore.l1 k x s i j) r := by
  intro m
  induction m with
  | zero =>
    intro j x hj hm h
    apply ev_succ
    have c : ¬ j < 8 := by omega
    have e : wrap64 (i + 1) = i + 1 := w64 (by omega) (by omega)
    simp only [impl_SumMore.l1, c, if_false, e]
    exact h
  | succ m ih =>
    intro j x hj hm h
    apply ev_succ
    have c : j < 8 := by omega
    have e : wrap64 (j + 1) = j + 1 := w64 (by omega) (by omega)
    have hh := ih (j + 1) (crc1 x) (by omega) (by omega) h
    by_cases o : Int.tmod x 2 = 1
    · simp only [crc1, o, if_true] at hh
      simp only [impl_SumMore.l1, c, o, if_true, e]
      exact hh
    · simp only [crc1, o, if_false] at hh
      simp only [impl_SumMore.l1, c, o, if_true, if_false, e]
      exact hh
theorem impl_SumMore_l0 (s : ByteArray) (hs : s.size ≤ 140737488351232) : ∀ (d : Nat) (i : Int) (x : Int), 0 ≤ i → i + d = s.size →
    Ev (fun k => impl_SumMore.l0 k x s i) (crcL x ((bytesOf s).drop i.toNat)) := by
  intro d
  induction d with
  | zero =>
    intro i x h0 h
    apply ev_succ
    have c : ¬ i < (s.size : Int) := by omega
    simp only [impl_SumMore.l0, c, if_false]
    apply ev_some
    rw [List.drop_of_length_le (by rw [bytes_len]; omega)]; rfl
  | succ d ih =>
    intro i x h0 h
    apply ev_succ
    have c : i < (s.size : Int) := by omega
    simp only [impl_SumMore.l0, c, h0, if_true]
    have hh := ih (i + 1) (crcB x (bt s i)) (by omega) (by omega)
    rw [drop_bt s i h0 c]
    exact impl_SumMore_l1 s i h0 c hs _ 8 0 _ (by omega) (by omega) hh
theorem impl_SumMore_ev (x : Int) (s : ByteArray) (hs : s.size ≤ 140737488351232) : Ev (fun k => impl_SumMore.f k x s) (crcL x (bytesOf s)) := by
  simp only [impl_SumMore.f]
  exact impl_SumMore_l0 s hs s.size 0 x (by omega) (by omega)

theorem impl_SumOf_ev (s : ByteArray) (hs : s.size ≤ 140737488351232) : Ev (fun k => impl_SumOf.f k s) (sumN s) := by
  simp only [impl_SumOf.f]
  exact Ev.bind (impl_SumMore_ev _ s hs) (Ev.now _)

theorem impl_highFirst_ev (x : Int) (h0 : 0 ≤ x) (h1 : x < 4294967296) : Ev (fun k => impl_highFirst.f k x 4) (strOfNums (four x)) := by
  have a1 : Go.bits .and .i64 x 255 = x % 256 := bits_and255 x h0 (by omega)
  have a2 : Go.bits .and .i64 (x / 256) 255 = x / 256 % 256 := bits_and255 _ (by omega) (by omega)
  have a3 : Go.bits .and .i64 (x / 256 / 256) 255 = x / 256 / 256 % 256 := bits_and255 _ (by omega) (by omega)
  have a4 : Go.bits .and .i64 (x / 256 / 256 / 256) 255 = x / 256 / 256 / 256 % 256 := bits_and255 _ (by omega) (by omega)
  have w1 : wrap64 (4 - 1) = 3 := wlit (by decide) (by decide) (by decide)
  have w2 : wrap64 (3 - 1) = 2 := wlit (by decide) (by decide) (by decide)
  have w3 : wrap64 (2 - 1) = 1 := wlit (by decide) (by decide) (by decide)
  have w4 : wrap64 (1 - 1) = 0 := wlit (by decide) (by decide) (by decide)
  have w5 : wrap64 (0 - 1) = -1 := wlit (by decide) (by decide) (by decide)
  simp only [impl_highFirst.f, show (0 : Int) ≤ 4 by decide, show (4 : Int).toNat ≤ 281474976710656 by decide, if_true, w1]
  apply ev_succ
  simp only [impl_highFirst.l0, show (3 : Int) ≥ 0 by decide, show (0 : Int) ≤ 3 by decide, show (3 : Int) < ((List.replicate (4 : Int).toNat (0 : Int)).length : Int) by decide, if_true, w2, a1]
  apply ev_succ
  simp only [impl_highFirst.l0, show (2 : Int) ≥ 0 by decide, show (0 : Int) ≤ 2 by decide, List.length_set, show (2 : Int) < ((List.replicate (4 : Int).toNat (0 : Int)).length : Int) by decide, if_true, w3, a2]
  apply ev_succ
  simp only [impl_highFirst.l0, show (1 : Int) ≥ 0 by decide, show (0 : Int) ≤ 1 by decide, List.length_set, show (1 : Int) < ((List.replicate (4 : Int).toNat (0 : Int)).length : Int) by decide, if_true, w4, a3]
  apply ev_succ
  simp only [impl_highFirst.l0, show (0 : Int) ≥ 0 by decide, show (0 : Int) ≤ 0 by decide, List.length_set, show (0 : Int) < ((List.replicate (4 : Int).toNat (0 : Int)).length : Int) by decide, if_true, w5, a4]
  apply ev_succ
  simp only [impl_highFirst.l0, show ¬ (-1 : Int) ≥ 0 by decide, if_false]
  apply ev_some
  show strOfNums [x / 256 / 256 / 256 % 256 % 256, x / 256 / 256 % 256 % 256, x / 256 % 256 % 256, x % 256 % 256] = strOfNums (four x)
  unfold four
  congr 1
  simp only [List.cons.injEq, and_true]
  omega
theorem impl_Sealed_ev (s : ByteArray) (hs : s.size ≤ 140737488351232) : Ev (fun k => impl_Sealed.f k s) (pSealed s) := by
  simp only [impl_Sealed.f]
  by_cases h : (s.size : Int) > 20000
  · simp only [h, if_true]
    rw [pSealed_no (by omega)]
    exact Ev.now _
  · simp only [h, if_false]
    refine Ev.bind (impl_SumOf_ev s hs) ?_
    have hr := sumN_range s
    have e : wrap64 (sumN s) = sumN s := w64 (by omega) (by omega)
    simp only [e]
    refine Ev.bind (impl_highFirst_ev _ hr.1 hr.2) ?_
    have c : s.size + (strOfNums (four (sumN s))).size ≤ 9223372036854775807 := by rw [str_len]; simp [four]; omega
    simp only [c, if_true]
    rw [pSealed_yes (by omega)]
    exact Ev.now _

theorem impl_Unsealed_ev (t : ByteArray) (ht : t.size ≤ 140737488351232) : Ev (fun k => impl_Unsealed.f k t) (pUnsealed t) := by
  simp only [impl_Unsealed.f]
  by_cases h : t.size < 4
  · have c : wrap64 ((t.size : Int) - 4) < 0 := by rw [w64 (by omega) (by omega)]; omega
    simp only [c, if_true]
    rw [pUnsealed_no (by omega)]
    exact Ev.now _
  · have e : wrap64 ((t.size : Int) - 4) = ((t.size - 4 : Nat) : Int) := by rw [w64 (by omega) (by omega)]; omega
    have c1 : ¬ ((t.size - 4 : Nat) : Int) < 0 := by omega
    have c2 : 0 ≤ ((t.size - 4 : Nat) : Int) := by omega
    have c3 : ((t.size - 4 : Nat) : Int) ≤ (t.size : Int) := by omega
    simp only [e, c1, c2, c3, if_true, if_false, Int.toNat_natCast]
    have hz : (t.extract 0 (t.size - 4)).size = t.size - 4 := by rw [size_ext]; omega
    refine Ev.bind (impl_Sealed_ev _ (by omega)) ?_
    by_cases h2 : t.size ≤ 20004
    · rw [pSealed_yes (by omega)]
      simp only [if_true, toList_iff]
      by_cases h3 : sealB (t.extract 0 (t.size - 4)) = t
      · simp only [h3, if_true]
        rw [pUnsealed_yes ⟨by omega, h2, h3.symm⟩]
        exact Ev.now _
      · simp only [h3, if_false]
        rw [pUnsealed_no (fun h => h3 h.2.2.symm)]
        exact Ev.now _
    · rw [pSealed_no (by omega)]
      simp only [Bool.false_eq_true, if_false]
      rw [pUnsealed_no (by omega)]
      exact Ev.now _

theorem spec_SumMore_l1 (s : ByteArray) (i : Int) (h0 : 0 ≤ i) (h1 : i < s.size) (hs : s.size ≤ 140737488351232) (r : Int) : ∀ (m : Nat) (j x : Int), 0 ≤ j → j + m = 8 →
    Ev (fun k => spec_SumMore.l0 k (crcK m x) s (i + 1)) r → Ev (fun k => spec_SumMore.l1 k x s i j) r := by
  intro m
  induction m with
  | zero =>
    intro j x hj hm h
    apply ev_succ
    have c : ¬ j < 8 := by omega
    have e : wrap64 (i + 1) = i + 1 := w64 (by omega) (by omega)
    simp only [spec_SumMore.l1, c, if_false, e]
    exact h
  | succ m ih =>
    intro j x hj hm h
    apply ev_succ
    have c : j < 8 := by omega
    have e : wrap64 (j + 1) = j + 1 := w64 (by omega) (by omega)
    have hh := ih (j + 1) (crc1 x) (by omega) (by omega) h
    by_cases o : Int.tmod x 2 = 1
    · simp only [crc1, o, if_true] at hh
      simp only [spec_SumMore.l1, c, o, if_true, e]
      exact hh
    · simp only [crc1, o, if_false] at hh
      simp only [spec_SumMore.l1, c, o, if_true, if_false, e]
      exact hh
theorem spec_SumMore_l0 (s : ByteArray) (hs : s.size ≤ 140737488351232) : ∀ (d : Nat) (i : Int) (x : Int), 0 ≤ i → i + d = s.size →
    Ev (fun k => spec_SumMore.l0 k x s i) (crcL x ((bytesOf s).drop i.toNat)) := by
  intro d
  induction d with
  | zero =>
    intro i x h0 h
    apply ev_succ
    have c : ¬ i < (s.size : Int) := by omega
    simp only [spec_SumMore.l0, c, if_false]
    apply ev_some
    rw [List.drop_of_length_le (by rw [bytes_len]; omega)]; rfl
  | succ d ih =>
    intro i x h0 h
    apply ev_succ
    have c : i < (s.size : Int) := by omega
    simp only [spec_SumMore.l0, c, h0, if_true]
    have hh := ih (i + 1) (crcB x (bt s i)) (by omega) (by omega)
    rw [drop_bt s i h0 c]
    exact spec_SumMore_l1 s i h0 c hs _ 8 0 _ (by omega) (by omega) hh
theorem spec_SumMore_ev (x : Int) (s : ByteArray) (hs : s.size ≤ 140737488351232) : Ev (fun k => spec_SumMore.f k x s) (crcL x (bytesOf s)) := by
  simp only [spec_SumMore.f]
  exact spec_SumMore_l0 s hs s.size 0 x (by omega) (by omega)

theorem spec_SumOf_ev (s : ByteArray) (hs : s.size ≤ 140737488351232) : Ev (fun k => spec_SumOf.f k s) (sumN s) := by
  simp only [spec_SumOf.f]
  exact Ev.bind (spec_SumMore_ev _ s hs) (Ev.now _)

theorem spec_l02Four_ev (x : Int) : Ev (fun _ => spec_l02Four.f x) (strOfNums (four x)) := ev_const rfl

theorem spec_Unsealed_ev (t : ByteArray) (ht : t.size ≤ 140737488351232) : Ev (fun k => spec_Unsealed.f k t) (pUnsealed t) := by
  simp only [spec_Unsealed.f]
  by_cases h : t.size < 4
  · have c : wrap64 ((t.size : Int) - 4) < 0 := by rw [w64 (by omega) (by omega)]; omega
    simp only [c, if_true]
    rw [pUnsealed_no (by omega)]
    exact Ev.now _
  · have e : wrap64 ((t.size : Int) - 4) = ((t.size - 4 : Nat) : Int) := by rw [w64 (by omega) (by omega)]; omega
    have c1 : ¬ ((t.size - 4 : Nat) : Int) < 0 := by omega
    have c2 : 0 ≤ ((t.size - 4 : Nat) : Int) := by omega
    have c3 : ((t.size - 4 : Nat) : Int) ≤ (t.size : Int) := by omega
    by_cases h2 : t.size ≤ 20004
    · have c4 : ¬ ((t.size - 4 : Nat) : Int) > 20000 := by omega
      simp only [e, c1, c2, c3, c4, if_true, if_false, Int.toNat_natCast]
      have hz : (t.extract 0 (t.size - 4)).size = t.size - 4 := by rw [size_ext]; omega
      refine Ev.bind (spec_SumOf_ev _ (by omega)) ?_
      refine Ev.bind (spec_l02Four_ev _) ?_
      simp only [toList_iff, ← seal_iff t]
      by_cases h3 : t = sealB (t.extract 0 (t.size - 4))
      · rw [pUnsealed_yes ⟨by omega, h2, h3⟩]
        simp only [if_pos h3]
        exact Ev.now _
      · rw [pUnsealed_no (fun h => h3 h.2.2)]
        simp only [if_neg h3]
        exact Ev.now _
    · have c4 : ((t.size - 4 : Nat) : Int) > 20000 := by omega
      simp only [e, c1, c4, if_true, if_false]
      rw [pUnsealed_no (by omega)]
      exact Ev.now _

theorem FnExactUnsealed : laws_FnExactUnsealed.Pure := by
  intro a0 h0
  apply ev_rounds
  simp only [laws_FnExactUnsealed.f]
  by_cases c : (a0.size : Int) > 1048576
  · simp only [c, if_true]; exact Ev.now _
  · simp only [c, if_false]
    refine Ev.bind (spec_Unsealed_ev a0 h0) ?_
    refine Ev.bind (impl_Unsealed_ev a0 h0) ?_
    simp

end Go.Proofs.Yteckehndkblgeaa.Pure
