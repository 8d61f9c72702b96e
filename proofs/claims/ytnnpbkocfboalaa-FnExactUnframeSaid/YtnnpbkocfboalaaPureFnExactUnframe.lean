/- Unframe of the program and of the reference give the same records and place for every file; the list is new memory. -/
import Derived.Test.YtnnpbkocfboalaaQFnExactUnframex5
import Derived.Test.YtnnpbkocfboalaaBaseL
import Derived.Test.YtnnpbkocfboalaaBaseF
namespace Go.Proofs.Ytnnpbkocfboalaa.Pure
open Go.RowKit Go.Proofs.Ytnnpbkocfboalaa.QFnExactUnframe Go.Proofs.YtnnpbkocfboalaaW.PrintWords Go.Proofs.YtnnpbkocfboalaaW.PrintLast Go.Proofs.YtnnpbkocfboalaaW.PrintMore Go.Proofs.Ytnnpbkocfboalaa.Base
set_option linter.unusedVariables false
set_option linter.unusedSimpArgs false

theorem impl_within_ev (a b c : Int) : Ev (fun _ => impl_within.f a b c) (decide (b ≤ a ∧ a ≤ c)) := by
  apply ev_const
  unfold impl_within.f
  by_cases h : a ≥ b
  · rw [if_pos h]; simp [show b ≤ a from h]
  · rw [if_neg h]; simp [show ¬ b ≤ a from h]

theorem impl_ReadVar_i5 (s : ByteArray) (at_ n : Int) (l : List Int) (sc : Int) : Ev (fun k => impl_ReadVar.l0 k s at_ n 5) (rvOut (at_ + 5) (rvF 0 sc n false l)) := by
  apply ev_succ
  simp only [impl_ReadVar.l0, show ¬ (5 : Int) < 5 by decide, if_false]
  apply ev_succ
  simp only [impl_ReadVar.j1, Bool.false_eq_true, if_false]
  exact Ev.now _
theorem impl_ReadVar_i4 (s : ByteArray) (hs : s.size ≤ 140737488351232) (at_ : Int) (h0 : 0 ≤ at_) (h1 : at_ ≤ s.size) (n : Int) (hn0 : 0 ≤ n) (hn : n < 268435456) :
    Ev (fun k => impl_ReadVar.l0 k s at_ n 4) (rvOut (at_ + 4) (rvF 1 268435456 n false ((bytesOf s).drop (at_ + 4).toNat))) := by
  apply ev_succ
  have e1 : wrap64 (at_ + 4) = at_ + 4 := w64 (by omega) (by omega)
  simp only [impl_ReadVar.l0, show (4 : Int) < 5 by decide, if_true, e1]
  apply ev_succ
  by_cases c : at_ + 4 < (s.size : Int)
  · rw [drop_bt s (at_ + 4) (by omega) c]
    have br := bt_range s (at_ + 4)
    have e0 : 0 ≤ at_ + 4 := by omega
    have e7 : (at_ + 4 + 1).toNat = (at_ + 5).toNat := by omega
    rw [e7]
    simp only [impl_ReadVar.j1, c, decide_true, if_true, e0, e1]
    have hnext := fun (m : Int) (_ _ : True) => impl_ReadVar_i5 s at_ m ((bytesOf s).drop (at_ + 5).toNat) 34359738368
    generalize bt s (at_ + 4) = b at br hnext ⊢
    have e2 : wrap64 b = b := w64 (by omega) (by omega)
    have e3 : Int.tmod b 128 = b % 128 := Int.tmod_eq_emod_of_nonneg (by omega)
    have e4 : wrap64 (7 * 4) = 28 := wlit (by decide) (by decide) (by decide)
    have e5 : shl .i64 (b % 128) 28 = b % 128 * 268435456 := shl7 (b % 128) 28 (by omega) (by omega) (by decide)
    have e6 : wrap64 (n + b % 128 * 268435456) = n + b % 128 * 268435456 := w64 (by omega) (by omega)
    have e8 : wrap64 (4 + 1) = 5 := wlit (by decide) (by decide) (by decide)
    have e9 : wrap64 (at_ + 4 + 1) = at_ + 4 + 1 := w64 (by omega) (by omega)
    simp only [if_true, e1, e2, e3, e4, e5, e6, e8, e9, show (0 : Int) ≤ 28 by decide, show (4 : Int) > 0 by decide]
    by_cases hb : b > 127
    · have hh := hnext (n + b % 128 * 268435456) trivial trivial
      rw [rvF_more hb, rvOut_map]
      simp only [hb, if_true]
      simpa only [show at_ + 4 + 1 = at_ + 5 by omega, show (268435456 : Int) * 128 = 34359738368 by decide] using hh
    · by_cases hz : b = 0
      · rw [rvF_stop hb (Or.inl ⟨rfl, hz⟩)]
        simp only [hb, hz, if_true, if_false]
        exact Ev.now _
      · by_cases hg : n + b % 128 * 268435456 > 1000000000
        · rw [rvF_stop hb (Or.inr hg)]
          simp only [hb, hz, hg, if_true, if_false]
          exact Ev.now _
        · rw [rvF_take hb (by simp [hz]) hg]
          simp only [hb, hz, hg, if_false]
          exact Ev.now _
  · simp only [impl_ReadVar.j1, c, decide_false, Bool.false_eq_true, if_false]
    rw [List.drop_of_length_le (by rw [bytes_len]; omega)]
    exact Ev.now _
theorem impl_ReadVar_i3 (s : ByteArray) (hs : s.size ≤ 140737488351232) (at_ : Int) (h0 : 0 ≤ at_) (h1 : at_ ≤ s.size) (n : Int) (hn0 : 0 ≤ n) (hn : n < 2097152) :
    Ev (fun k => impl_ReadVar.l0 k s at_ n 3) (rvOut (at_ + 3) (rvF 2 2097152 n false ((bytesOf s).drop (at_ + 3).toNat))) := by
  apply ev_succ
  have e1 : wrap64 (at_ + 3) = at_ + 3 := w64 (by omega) (by omega)
  simp only [impl_ReadVar.l0, show (3 : Int) < 5 by decide, if_true, e1]
  apply ev_succ
  by_cases c : at_ + 3 < (s.size : Int)
  · rw [drop_bt s (at_ + 3) (by omega) c]
    have br := bt_range s (at_ + 3)
    have e0 : 0 ≤ at_ + 3 := by omega
    have e7 : (at_ + 3 + 1).toNat = (at_ + 4).toNat := by omega
    rw [e7]
    simp only [impl_ReadVar.j1, c, decide_true, if_true, e0, e1]
    have hnext := fun (m : Int) (hm0 : 0 ≤ m) (hm : m < 268435456) => impl_ReadVar_i4 s hs at_ h0 h1 m hm0 hm
    generalize bt s (at_ + 3) = b at br hnext ⊢
    have e2 : wrap64 b = b := w64 (by omega) (by omega)
    have e3 : Int.tmod b 128 = b % 128 := Int.tmod_eq_emod_of_nonneg (by omega)
    have e4 : wrap64 (7 * 3) = 21 := wlit (by decide) (by decide) (by decide)
    have e5 : shl .i64 (b % 128) 21 = b % 128 * 2097152 := shl7 (b % 128) 21 (by omega) (by omega) (by decide)
    have e6 : wrap64 (n + b % 128 * 2097152) = n + b % 128 * 2097152 := w64 (by omega) (by omega)
    have e8 : wrap64 (3 + 1) = 4 := wlit (by decide) (by decide) (by decide)
    have e9 : wrap64 (at_ + 3 + 1) = at_ + 3 + 1 := w64 (by omega) (by omega)
    simp only [if_true, e1, e2, e3, e4, e5, e6, e8, e9, show (0 : Int) ≤ 21 by decide, show (3 : Int) > 0 by decide]
    by_cases hb : b > 127
    · have hh := hnext (n + b % 128 * 2097152) (by omega) (by omega)
      rw [rvF_more hb, rvOut_map]
      simp only [hb, if_true]
      simpa only [show at_ + 3 + 1 = at_ + 4 by omega, show (2097152 : Int) * 128 = 268435456 by decide] using hh
    · by_cases hz : b = 0
      · rw [rvF_stop hb (Or.inl ⟨rfl, hz⟩)]
        simp only [hb, hz, if_true, if_false]
        exact Ev.now _
      · by_cases hg : n + b % 128 * 2097152 > 1000000000
        · rw [rvF_stop hb (Or.inr hg)]
          simp only [hb, hz, hg, if_true, if_false]
          exact Ev.now _
        · rw [rvF_take hb (by simp [hz]) hg]
          simp only [hb, hz, hg, if_false]
          exact Ev.now _
  · simp only [impl_ReadVar.j1, c, decide_false, Bool.false_eq_true, if_false]
    rw [List.drop_of_length_le (by rw [bytes_len]; omega)]
    exact Ev.now _
theorem impl_ReadVar_i2 (s : ByteArray) (hs : s.size ≤ 140737488351232) (at_ : Int) (h0 : 0 ≤ at_) (h1 : at_ ≤ s.size) (n : Int) (hn0 : 0 ≤ n) (hn : n < 16384) :
    Ev (fun k => impl_ReadVar.l0 k s at_ n 2) (rvOut (at_ + 2) (rvF 3 16384 n false ((bytesOf s).drop (at_ + 2).toNat))) := by
  apply ev_succ
  have e1 : wrap64 (at_ + 2) = at_ + 2 := w64 (by omega) (by omega)
  simp only [impl_ReadVar.l0, show (2 : Int) < 5 by decide, if_true, e1]
  apply ev_succ
  by_cases c : at_ + 2 < (s.size : Int)
  · rw [drop_bt s (at_ + 2) (by omega) c]
    have br := bt_range s (at_ + 2)
    have e0 : 0 ≤ at_ + 2 := by omega
    have e7 : (at_ + 2 + 1).toNat = (at_ + 3).toNat := by omega
    rw [e7]
    simp only [impl_ReadVar.j1, c, decide_true, if_true, e0, e1]
    have hnext := fun (m : Int) (hm0 : 0 ≤ m) (hm : m < 2097152) => impl_ReadVar_i3 s hs at_ h0 h1 m hm0 hm
    generalize bt s (at_ + 2) = b at br hnext ⊢
    have e2 : wrap64 b = b := w64 (by omega) (by omega)
    have e3 : Int.tmod b 128 = b % 128 := Int.tmod_eq_emod_of_nonneg (by omega)
    have e4 : wrap64 (7 * 2) = 14 := wlit (by decide) (by decide) (by decide)
    have e5 : shl .i64 (b % 128) 14 = b % 128 * 16384 := shl7 (b % 128) 14 (by omega) (by omega) (by decide)
    have e6 : wrap64 (n + b % 128 * 16384) = n + b % 128 * 16384 := w64 (by omega) (by omega)
    have e8 : wrap64 (2 + 1) = 3 := wlit (by decide) (by decide) (by decide)
    have e9 : wrap64 (at_ + 2 + 1) = at_ + 2 + 1 := w64 (by omega) (by omega)
    simp only [if_true, e1, e2, e3, e4, e5, e6, e8, e9, show (0 : Int) ≤ 14 by decide, show (2 : Int) > 0 by decide]
    by_cases hb : b > 127
    · have hh := hnext (n + b % 128 * 16384) (by omega) (by omega)
      rw [rvF_more hb, rvOut_map]
      simp only [hb, if_true]
      simpa only [show at_ + 2 + 1 = at_ + 3 by omega, show (16384 : Int) * 128 = 2097152 by decide] using hh
    · by_cases hz : b = 0
      · rw [rvF_stop hb (Or.inl ⟨rfl, hz⟩)]
        simp only [hb, hz, if_true, if_false]
        exact Ev.now _
      · by_cases hg : n + b % 128 * 16384 > 1000000000
        · rw [rvF_stop hb (Or.inr hg)]
          simp only [hb, hz, hg, if_true, if_false]
          exact Ev.now _
        · rw [rvF_take hb (by simp [hz]) hg]
          simp only [hb, hz, hg, if_false]
          exact Ev.now _
  · simp only [impl_ReadVar.j1, c, decide_false, Bool.false_eq_true, if_false]
    rw [List.drop_of_length_le (by rw [bytes_len]; omega)]
    exact Ev.now _
theorem impl_ReadVar_i1 (s : ByteArray) (hs : s.size ≤ 140737488351232) (at_ : Int) (h0 : 0 ≤ at_) (h1 : at_ ≤ s.size) (n : Int) (hn0 : 0 ≤ n) (hn : n < 128) :
    Ev (fun k => impl_ReadVar.l0 k s at_ n 1) (rvOut (at_ + 1) (rvF 4 128 n false ((bytesOf s).drop (at_ + 1).toNat))) := by
  apply ev_succ
  have e1 : wrap64 (at_ + 1) = at_ + 1 := w64 (by omega) (by omega)
  simp only [impl_ReadVar.l0, show (1 : Int) < 5 by decide, if_true, e1]
  apply ev_succ
  by_cases c : at_ + 1 < (s.size : Int)
  · rw [drop_bt s (at_ + 1) (by omega) c]
    have br := bt_range s (at_ + 1)
    have e0 : 0 ≤ at_ + 1 := by omega
    have e7 : (at_ + 1 + 1).toNat = (at_ + 2).toNat := by omega
    rw [e7]
    simp only [impl_ReadVar.j1, c, decide_true, if_true, e0, e1]
    have hnext := fun (m : Int) (hm0 : 0 ≤ m) (hm : m < 16384) => impl_ReadVar_i2 s hs at_ h0 h1 m hm0 hm
    generalize bt s (at_ + 1) = b at br hnext ⊢
    have e2 : wrap64 b = b := w64 (by omega) (by omega)
    have e3 : Int.tmod b 128 = b % 128 := Int.tmod_eq_emod_of_nonneg (by omega)
    have e4 : wrap64 (7 * 1) = 7 := wlit (by decide) (by decide) (by decide)
    have e5 : shl .i64 (b % 128) 7 = b % 128 * 128 := shl7 (b % 128) 7 (by omega) (by omega) (by decide)
    have e6 : wrap64 (n + b % 128 * 128) = n + b % 128 * 128 := w64 (by omega) (by omega)
    have e8 : wrap64 (1 + 1) = 2 := wlit (by decide) (by decide) (by decide)
    have e9 : wrap64 (at_ + 1 + 1) = at_ + 1 + 1 := w64 (by omega) (by omega)
    simp only [if_true, e1, e2, e3, e4, e5, e6, e8, e9, show (0 : Int) ≤ 7 by decide, show (1 : Int) > 0 by decide]
    by_cases hb : b > 127
    · have hh := hnext (n + b % 128 * 128) (by omega) (by omega)
      rw [rvF_more hb, rvOut_map]
      simp only [hb, if_true]
      simpa only [show at_ + 1 + 1 = at_ + 2 by omega, show (128 : Int) * 128 = 16384 by decide] using hh
    · by_cases hz : b = 0
      · rw [rvF_stop hb (Or.inl ⟨rfl, hz⟩)]
        simp only [hb, hz, if_true, if_false]
        exact Ev.now _
      · by_cases hg : n + b % 128 * 128 > 1000000000
        · rw [rvF_stop hb (Or.inr hg)]
          simp only [hb, hz, hg, if_true, if_false]
          exact Ev.now _
        · rw [rvF_take hb (by simp [hz]) hg]
          simp only [hb, hz, hg, if_false]
          exact Ev.now _
  · simp only [impl_ReadVar.j1, c, decide_false, Bool.false_eq_true, if_false]
    rw [List.drop_of_length_le (by rw [bytes_len]; omega)]
    exact Ev.now _
theorem impl_ReadVar_i0 (s : ByteArray) (hs : s.size ≤ 140737488351232) (at_ : Int) (h0 : 0 ≤ at_) (h1 : at_ ≤ s.size) (n : Int) (hn0 : 0 ≤ n) (hn : n < 1) :
    Ev (fun k => impl_ReadVar.l0 k s at_ n 0) (rvOut (at_ + 0) (rvF 5 1 n true ((bytesOf s).drop (at_ + 0).toNat))) := by
  apply ev_succ
  have e1 : wrap64 (at_ + 0) = at_ + 0 := w64 (by omega) (by omega)
  simp only [impl_ReadVar.l0, show (0 : Int) < 5 by decide, if_true, e1]
  apply ev_succ
  by_cases c : at_ + 0 < (s.size : Int)
  · rw [drop_bt s (at_ + 0) (by omega) c]
    have br := bt_range s (at_ + 0)
    have e0 : 0 ≤ at_ + 0 := by omega
    have e7 : (at_ + 0 + 1).toNat = (at_ + 1).toNat := by omega
    rw [e7]
    simp only [impl_ReadVar.j1, c, decide_true, if_true, e0, e1]
    have hnext := fun (m : Int) (hm0 : 0 ≤ m) (hm : m < 128) => impl_ReadVar_i1 s hs at_ h0 h1 m hm0 hm
    generalize bt s (at_ + 0) = b at br hnext ⊢
    have e2 : wrap64 b = b := w64 (by omega) (by omega)
    have e3 : Int.tmod b 128 = b % 128 := Int.tmod_eq_emod_of_nonneg (by omega)
    have e4 : wrap64 (7 * 0) = 0 := wlit (by decide) (by decide) (by decide)
    have e5 : shl .i64 (b % 128) 0 = b % 128 * 1 := shl7 (b % 128) 0 (by omega) (by omega) (by decide)
    have e6 : wrap64 (n + b % 128 * 1) = n + b % 128 * 1 := w64 (by omega) (by omega)
    have e8 : wrap64 (0 + 1) = 1 := wlit (by decide) (by decide) (by decide)
    have e9 : wrap64 (at_ + 0 + 1) = at_ + 0 + 1 := w64 (by omega) (by omega)
    simp only [if_true, e1, e2, e3, e4, e5, e6, e8, e9, show (0 : Int) ≤ 0 by decide, show ¬ (0 : Int) > 0 by decide, if_false]
    by_cases hb : b > 127
    · have hh := hnext (n + b % 128 * 1) (by omega) (by omega)
      rw [rvF_more hb, rvOut_map]
      simp only [hb, if_true]
      simpa only [show at_ + 0 + 1 = at_ + 1 by omega, show (1 : Int) * 128 = 128 by decide] using hh
    · by_cases hg : n + b % 128 * 1 > 1000000000
      · rw [rvF_stop hb (Or.inr hg)]
        simp only [hb, hg, if_true, if_false]
        exact Ev.now _
      · rw [rvF_take hb (by simp) hg]
        simp only [hb, hg, if_false]
        exact Ev.now _
  · simp only [impl_ReadVar.j1, c, decide_false, Bool.false_eq_true, if_false]
    rw [List.drop_of_length_le (by rw [bytes_len]; omega)]
    exact Ev.now _
theorem impl_ReadVar_ev (s : ByteArray) (hs : s.size ≤ 140737488351232) (at_ : Int) : Ev (fun k => impl_ReadVar.f k s at_) (pReadVar s at_) := by
  simp only [impl_ReadVar.f]
  refine Ev.bind (impl_within_ev _ _ _) ?_
  by_cases h : 0 ≤ at_ ∧ at_ ≤ (s.size : Int)
  · simp only [h, and_self, decide_true, if_true]
    rw [pReadVar_in h]
    have hh := impl_ReadVar_i0 s hs at_ h.1 h.2 0 (by decide) (by decide)
    simpa only [Int.add_zero] using hh
  · simp only [h, decide_false, Bool.false_eq_true, if_false]
    rw [pReadVar_out h]
    exact Ev.now _

theorem impl_SumMore_l1 (s : ByteArray) (i : Int) (h0 : 0 ≤ i) (h1 : i < s.size) (hs : s.size ≤ 140737488351232) (r : Int) : ∀ (m : Nat) (j x : Int), 0 ≤ j → j + m = 8 →
    Ev (fun k => impl_SumMore.l0 k (crcK m x) s (i + 1)) r → Ev (fun k => impl_SumMore.l1 k x s i j) r := by
  intro m
  induction m with
  | zero =>
    intro j x hj hm h
    apply ev_succ
    have c : ¬ j < 8 := by omega
    have e : wrap64 (i + 1) = i + 1 := w64 (by omega) (by omega)
    simp only [impl_SumMore.l1, c, if_false, e]
    exact h
  | succ m ih =>
    intro j x hj hm h
    apply ev_succ
    have c : j < 8 := by omega
    have e : wrap64 (j + 1) = j + 1 := w64 (by omega) (by omega)
    have hh := ih (j + 1) (crc1 x) (by omega) (by omega) h
    by_cases o : Int.tmod x 2 = 1
    · simp only [crc1, o, if_true] at hh
      simp only [impl_SumMore.l1, c, o, if_true, e]
      exact hh
    · simp only [crc1, o, if_false] at hh
      simp only [impl_SumMore.l1, c, o, if_true, if_false, e]
      exact hh
theorem impl_SumMore_l0 (s : ByteArray) (hs : s.size ≤ 140737488351232) : ∀ (d : Nat) (i : Int) (x : Int), 0 ≤ i → i + d = s.size →
    Ev (fun k => impl_SumMore.l0 k x s i) (crcL x ((bytesOf s).drop i.toNat)) := by
  intro d
  induction d with
  | zero =>
    intro i x h0 h
    apply ev_succ
    have c : ¬ i < (s.size : Int) := by omega
    simp only [impl_SumMore.l0, c, if_false]
    apply ev_some
    rw [List.drop_of_length_le (by rw [bytes_len]; omega)]; rfl
  | succ d ih =>
    intro i x h0 h
    apply ev_succ
    have c : i < (s.size : Int) := by omega
    simp only [impl_SumMore.l0, c, h0, if_true]
    have hh := ih (i + 1) (crcB x (bt s i)) (by omega) (by omega)
    rw [drop_bt s i h0 c]
    exact impl_SumMore_l1 s i h0 c hs _ 8 0 _ (by omega) (by omega) hh
theorem impl_SumMore_ev (x : Int) (s : ByteArray) (hs : s.size ≤ 140737488351232) : Ev (fun k => impl_SumMore.f k x s) (crcL x (bytesOf s)) := by
  simp only [impl_SumMore.f]
  exact impl_SumMore_l0 s hs s.size 0 x (by omega) (by omega)

theorem impl_SumOf_ev (s : ByteArray) (hs : s.size ≤ 140737488351232) : Ev (fun k => impl_SumOf.f k s) (sumN s) := by
  simp only [impl_SumOf.f]
  exact Ev.bind (impl_SumMore_ev _ s hs) (Ev.now _)

theorem impl_sumText_ev (s : ByteArray) (hs : s.size ≤ 140737488351232) : Ev (fun k => impl_sumText.f k s) (strOfNums (four (sumN s))) := by
  simp only [impl_sumText.f]
  exact Ev.bind (impl_SumOf_ev s hs) (Ev.now _)
theorem impl_Unframe_l0 (s : ByteArray) (hs : s.size ≤ 20000) : ∀ (d : Nat) (at_ : Int) (acc : List ByteArray), 0 ≤ at_ → at_ ≤ s.size → s.size - at_ < d → acc.length ≤ at_ →
    Ev (fun k => impl_Unframe.l0 k s acc at_) (pUnfr s d acc at_) := by
  intro d
  induction d with
  | zero => intro at_ acc h0 h1 h2; omega
  | succ d ih =>
    intro at_ acc h0 h1 h2 h3
    apply ev_succ
    have cs : (s.size : Int) ≤ 20000 := by omega
    simp only [impl_Unframe.l0, cs, if_true]
    have hstop : ¬ uOk s at_ → ∀ n m, Ev (fun k => impl_Unframe.j1 k s acc at_ n m true) (pUnfr s (d + 1) acc at_) := by
      intro hn n m
      apply ev_succ
      simp only [impl_Unframe.j1, if_true]
      rw [pUnfr_no hn]
      exact Ev.now _
    refine Ev.bind (impl_ReadVar_ev s (by omega) at_) ?_
    by_cases ho : (pReadVar s at_).2.2 = true
    · have hb := pReadVar_ok s at_ ho
      have hgo := fun (hu : uOk s at_) => ih (uNext s at_) (acc ++ [uRec s at_]) (by have := uOk_next hu; omega) (uOk_next hu).2 (by have := uOk_next hu; omega) (by have := uOk_next hu; simp; omega)
      have hyes := fun (hu : uOk s at_) => pUnfr_yes (s := s) (f := d) (acc := acc) hu
      simp only [ho, if_true]
      refine Ev.bind (impl_within_ev _ _ _) ?_
      by_cases hn : 1 ≤ (pReadVar s at_).1 ∧ (pReadVar s at_).1 ≤ 9000
      · simp only [hn, and_self, decide_true, if_true]
        have e1 : wrap64 ((pReadVar s at_).1 + 4) = (pReadVar s at_).1 + 4 := w64 (by omega) (by omega)
        have e2 : wrap64 ((s.size : Int) - (pReadVar s at_).2.1) = s.size - (pReadVar s at_).2.1 := w64 (by omega) (by omega)
        rw [e1, e2]
        by_cases hq : (pReadVar s at_).1 + 4 > s.size - (pReadVar s at_).2.1
        · simp only [hq, decide_true]
          exact hstop (fun hu => by have := hu.2.2.1; omega) _ _
        · simp only [hq, decide_false]
          apply ev_succ
          have e3 : wrap64 ((pReadVar s at_).2.1 + 4) = (pReadVar s at_).2.1 + 4 := w64 (by omega) (by omega)
          have e4 : wrap64 ((pReadVar s at_).2.1 + 4 + (pReadVar s at_).1) = (pReadVar s at_).2.1 + 4 + (pReadVar s at_).1 := w64 (by omega) (by omega)
          have k1 : 0 ≤ (pReadVar s at_).2.1 + 4 := by omega
          have k2 : (pReadVar s at_).2.1 + 4 ≤ (pReadVar s at_).2.1 + 4 + (pReadVar s at_).1 := by omega
          have k3 : (pReadVar s at_).2.1 + 4 + (pReadVar s at_).1 ≤ (s.size : Int) := by omega
          have k4 : 0 ≤ (pReadVar s at_).2.1 := by omega
          have k5 : (pReadVar s at_).2.1 ≤ (pReadVar s at_).2.1 + 4 := by omega
          have k6 : (pReadVar s at_).2.1 + 4 ≤ (s.size : Int) := by omega
          have hsz : (uRec s at_).size ≤ 140737488351232 := by unfold uRec; rw [size_ext]; omega
          simp only [impl_Unframe.j1, Bool.false_eq_true, if_false, e3, e4, k1, k2, k3, if_true]
          refine Ev.bind (impl_sumText_ev (uRec s at_) hsz) ?_
          have ha : acc.length < 8796093022208 := by omega
          simp only [k4, k5, k6, if_true, toList_iff, ha]
          by_cases hx : strOfNums (four (sumN (uRec s at_))) = s.extract (pReadVar s at_).2.1.toNat ((pReadVar s at_).2.1 + 4).toNat
          · have hu : uOk s at_ := ⟨ho, hn, by omega, hx⟩
            rw [hyes hu]
            simp only [hx, if_true]
            exact hgo hu
          · rw [pUnfr_no (fun hu => hx hu.2.2.2)]
            simp only [hx, if_false]
            exact Ev.now _
      · simp only [hn, decide_false, Bool.false_eq_true, if_false]
        exact hstop (fun hu => hn hu.2.1) _ _
    · simp only [ho, if_false]
      exact hstop (fun hu => ho hu.1) _ _
theorem impl_Unframe_ev (s : ByteArray) (hs : s.size ≤ 1048576) : Ev (fun k => impl_Unframe.f k s) (pUnframe s) := by
  simp only [impl_Unframe.f]
  by_cases h : s.size ≤ 20000
  · rw [pUnframe, if_pos h]
    exact impl_Unframe_l0 s h (s.size + 1) 0 [] (by omega) (by omega) (by omega) (by simp)
  · rw [pUnframe, if_neg h]
    apply ev_succ
    have c : ¬ (s.size : Int) ≤ 20000 := by omega
    simp only [impl_Unframe.l0, c, if_false]
    exact Ev.now _

theorem spec_l01In_ev (a b c : Int) : Ev (fun _ => spec_l01In.f a b c) (decide (b ≤ a ∧ a ≤ c)) := by
  apply ev_const
  unfold spec_l01In.f
  by_cases h : a ≥ b
  · rw [if_pos h]; simp [show b ≤ a from h]
  · rw [if_neg h]; simp [show ¬ b ≤ a from h]

theorem spec_l01Var_l0 (n : Nat) : ∀ xs : List Int, xs.length + n < 140737488355328 → Ev (fun k => spec_l01Var.l0 k (n : Int) xs) (strOfNums (xs ++ varN n)) := by
  induction n using Nat.strongRecOn with
  | ind n ih =>
    intro xs h
    apply ev_succ
    have c2 : xs.length < 140737488355328 := by omega
    by_cases hn : n ≤ 127
    · have c1 : ¬ (n : Int) > 127 := by omega
      simp only [spec_l01Var.l0, c1, c2, if_true, if_false]
      apply ev_some
      rw [varN_small hn, show (n : Int) % 256 = n by omega]
    · have c1 : (n : Int) > 127 := by omega
      simp only [spec_l01Var.l0, c1, c2, if_true, var_div n (by omega), var_mod n]
      have := ih (n / 128) (by omega) (xs ++ [((n % 128 + 128 : Nat) : Int)]) (by simp; omega)
      rw [varN_big hn]
      simpa using this
theorem spec_l01Var_ev (n : Nat) (h : n < 140737488355328) : Ev (fun k => spec_l01Var.f k (n : Int)) (varB n) := by
  simp only [spec_l01Var.f]
  have := spec_l01Var_l0 n [] (by simpa using h)
  simpa [varB] using this

theorem spec_ReadVar_i5 (s : ByteArray) (hs : s.size ≤ 140737488351232) (at_ : Int) (h0 : 0 ≤ at_) (h1 : at_ ≤ s.size) (n sc : Int) (l : List Int) : Ev (fun k => spec_ReadVar.l0 k s at_ n sc (at_ + 5)) (rvOut (at_ + 5) (rvF 0 sc n false l)) := by
  apply ev_succ
  have e1 : wrap64 (at_ + 5) = at_ + 5 := w64 (by omega) (by omega)
  have e2 : decide (at_ + 5 < at_ + 5) = false := decide_eq_false (by omega)
  simp only [spec_ReadVar.l0, e1, e2, ite_self]
  apply ev_succ
  simp only [spec_ReadVar.j1, Bool.false_eq_true, if_false]
  exact Ev.now _
theorem spec_ReadVar_i4 (s : ByteArray) (hs : s.size ≤ 140737488351232) (at_ : Int) (h0 : 0 ≤ at_) (h1 : at_ ≤ s.size) (ds : List Int) (hl : ds.length = 4) (hd : ∀ d ∈ ds, 128 ≤ d ∧ d ≤ 255) (hv : valL ds < 268435456) (hp : ds = ((bytesOf s).drop at_.toNat).take 4) :
    Ev (fun k => spec_ReadVar.l0 k s at_ (valL ds : Int) 268435456 (at_ + 4)) (rvOut (at_ + 4) (rvF 1 268435456 (valL ds : Int) false ((bytesOf s).drop (at_ + 4).toNat))) := by
  apply ev_succ
  have e1 : wrap64 (at_ + 5) = at_ + 5 := w64 (by omega) (by omega)
  have e2 : decide (at_ + 4 < at_ + 5) = true := decide_eq_true (by omega)
  by_cases c : at_ + 4 < (s.size : Int)
  · simp only [spec_ReadVar.l0, c, if_true, e1, e2]
    apply ev_succ
    rw [drop_bt s (at_ + 4) (by omega) c]
    have br := bt_range s (at_ + 4)
    have e0 : 0 ≤ at_ + 4 := by omega
    have e7 : (at_ + 4 + 1).toNat = (at_ + 5).toNat := by omega
    rw [e7]
    have k3 : at_ + 4 + 1 = at_ + 5 := by omega
    have k4 : (268435456 : Int) * 128 = 34359738368 := by decide
    simp only [spec_ReadVar.j1, c, if_true, e0, h0]
    have hp' : ds ++ [bt s (at_ + 4)] = ((bytesOf s).drop at_.toNat).take 5 := by
      have h3 : ((bytesOf s).drop at_.toNat)[4]? = some (bt s (at_ + 4)) := by
        rw [List.getElem?_drop, bt_rd, List.getD_eq_getElem?_getD, show (at_ + 4).toNat = at_.toNat + 4 by omega, List.getElem?_eq_getElem (by rw [bytes_len]; omega)]
        rfl
      rw [List.take_add_one, ← hp, h3]
      rfl
    have hvs := valL_snoc ds (bt s (at_ + 4))
    rw [hl] at hvs
    have hx : bytesOf (s.extract at_.toNat (at_ + 4 + 1).toNat) = ds ++ [bt s (at_ + 4)] := by
      rw [bytes_ext, hp', show (at_ + 4 + 1).toNat - at_.toNat = 5 by omega]
    have hnext := fun (_ _ : True) => spec_ReadVar_i5 s hs at_ h0 h1 (valL (ds ++ [bt s (at_ + 4)]) : Int) 34359738368 ((bytesOf s).drop (at_ + 5).toNat)
    have hcan := canon ds (bt s (at_ + 4)) hd
    have hext : ∀ X : ByteArray, X = s.extract at_.toNat (at_ + 4 + 1).toNat ↔ bytesOf X = ds ++ [bt s (at_ + 4)] := fun X => ⟨fun h => by rw [h, hx], fun h => bytes_inj (by rw [h, hx])⟩
    generalize bt s (at_ + 4) = b at br hnext hvs hcan hext hp' ⊢
    have hval : ((valL (ds ++ [b]) : Nat) : Int) = (valL ds : Int) + b % 128 * 268435456 := by
      rw [hvs]; omega
    have hv' : valL (ds ++ [b]) < 34359738368 := by clear hnext hext hcan hp' hd hp; omega
    have e3 : wrap64 b = b := w64 (by omega) (by omega)
    have e4 : Int.tmod b 128 = b % 128 := Int.tmod_eq_emod_of_nonneg (by omega)
    have e5 : wrap64 (b % 128 * 268435456) = b % 128 * 268435456 := w64 (by omega) (by omega)
    have e6 : wrap64 ((valL (ds ++ [b]) : Nat) : Int) = ((valL (ds ++ [b]) : Nat) : Int) := w64 (by omega) (by omega)
    have e8 : wrap64 (at_ + 4 + 1) = at_ + 4 + 1 := w64 (by omega) (by omega)
    have e9 : wrap64 (268435456 * 128) = 34359738368 := wlit (by decide) (by decide) (by decide)
    have k1 : at_ ≤ at_ + 4 + 1 := by omega
    have k2 : at_ + 4 + 1 ≤ (s.size : Int) := by omega
    simp only [if_true, e3, e4, e5, e6, e8, e9, k1, k2, ← hval]
    by_cases hb : b < 128
    · have hb' : ¬ b > 127 := not_big hb
      by_cases hg : ((valL (ds ++ [b]) : Nat) : Int) > 1000000000
      · have hbad : (valL ds : Int) + b % 128 * 268435456 > 1000000000 := by rw [← hval]; exact hg
        rw [rvF_stop hb' (Or.inr hbad)]
        simp only [hb, hg, if_true]
        exact Ev.now _
      · simp only [hb, hg, if_true, if_false]
        refine Ev.bind (spec_l01Var_ev (valL (ds ++ [b])) (lt_big hg)) ?_
        simp only [toList_iff, hext, varB, bytes_str (varN_isB _), hcan br.1 (lt_128 hb)]
        have hgood : ¬ (valL ds : Int) + b % 128 * 268435456 > 1000000000 := by rw [← hval]; exact hg
        by_cases hz : ds = [] ∨ b ≠ 0
        · have hq : ¬ (false = false ∧ b = 0) := by rcases hz with rfl | hz; exact absurd hl (by simp); exact fun h => hz h.2
          rw [rvF_take hb' hq hgood, ← hval]
          simp only [if_pos hz]
          exact Ev.now _
        · rw [rvF_stop hb' (Or.inl ⟨rfl, Classical.byContradiction fun h => hz (Or.inr h)⟩)]
          simp only [if_neg hz]
          exact Ev.now _
    · have hb' : b > 127 := is_big hb
      rw [rvF_more hb', rvOut_map, ← hval]
      simp only [hb, if_false]
      have hh := hnext trivial trivial
      simpa only [k3, k4] using hh
  · simp only [spec_ReadVar.l0, c, if_false]
    apply ev_succ
    simp only [spec_ReadVar.j1, Bool.false_eq_true, if_false]
    rw [List.drop_of_length_le (by rw [bytes_len]; omega)]
    exact Ev.now _
theorem spec_ReadVar_i3 (s : ByteArray) (hs : s.size ≤ 140737488351232) (at_ : Int) (h0 : 0 ≤ at_) (h1 : at_ ≤ s.size) (ds : List Int) (hl : ds.length = 3) (hd : ∀ d ∈ ds, 128 ≤ d ∧ d ≤ 255) (hv : valL ds < 2097152) (hp : ds = ((bytesOf s).drop at_.toNat).take 3) :
    Ev (fun k => spec_ReadVar.l0 k s at_ (valL ds : Int) 2097152 (at_ + 3)) (rvOut (at_ + 3) (rvF 2 2097152 (valL ds : Int) false ((bytesOf s).drop (at_ + 3).toNat))) := by
  apply ev_succ
  have e1 : wrap64 (at_ + 5) = at_ + 5 := w64 (by omega) (by omega)
  have e2 : decide (at_ + 3 < at_ + 5) = true := decide_eq_true (by omega)
  by_cases c : at_ + 3 < (s.size : Int)
  · simp only [spec_ReadVar.l0, c, if_true, e1, e2]
    apply ev_succ
    rw [drop_bt s (at_ + 3) (by omega) c]
    have br := bt_range s (at_ + 3)
    have e0 : 0 ≤ at_ + 3 := by omega
    have e7 : (at_ + 3 + 1).toNat = (at_ + 4).toNat := by omega
    rw [e7]
    have k3 : at_ + 3 + 1 = at_ + 4 := by omega
    have k4 : (2097152 : Int) * 128 = 268435456 := by decide
    simp only [spec_ReadVar.j1, c, if_true, e0, h0]
    have hp' : ds ++ [bt s (at_ + 3)] = ((bytesOf s).drop at_.toNat).take 4 := by
      have h3 : ((bytesOf s).drop at_.toNat)[3]? = some (bt s (at_ + 3)) := by
        rw [List.getElem?_drop, bt_rd, List.getD_eq_getElem?_getD, show (at_ + 3).toNat = at_.toNat + 3 by omega, List.getElem?_eq_getElem (by rw [bytes_len]; omega)]
        rfl
      rw [List.take_add_one, ← hp, h3]
      rfl
    have hvs := valL_snoc ds (bt s (at_ + 3))
    rw [hl] at hvs
    have hx : bytesOf (s.extract at_.toNat (at_ + 3 + 1).toNat) = ds ++ [bt s (at_ + 3)] := by
      rw [bytes_ext, hp', show (at_ + 3 + 1).toNat - at_.toNat = 4 by omega]
    have hnext := fun hv' hd' => spec_ReadVar_i4 s hs at_ h0 h1 (ds ++ [bt s (at_ + 3)]) (by simp [hl]) hd' hv' hp'
    have hcan := canon ds (bt s (at_ + 3)) hd
    have hext : ∀ X : ByteArray, X = s.extract at_.toNat (at_ + 3 + 1).toNat ↔ bytesOf X = ds ++ [bt s (at_ + 3)] := fun X => ⟨fun h => by rw [h, hx], fun h => bytes_inj (by rw [h, hx])⟩
    generalize bt s (at_ + 3) = b at br hnext hvs hcan hext hp' ⊢
    have hval : ((valL (ds ++ [b]) : Nat) : Int) = (valL ds : Int) + b % 128 * 2097152 := by
      rw [hvs]; omega
    have hv' : valL (ds ++ [b]) < 268435456 := by clear hnext hext hcan hp' hd hp; omega
    have e3 : wrap64 b = b := w64 (by omega) (by omega)
    have e4 : Int.tmod b 128 = b % 128 := Int.tmod_eq_emod_of_nonneg (by omega)
    have e5 : wrap64 (b % 128 * 2097152) = b % 128 * 2097152 := w64 (by omega) (by omega)
    have e6 : wrap64 ((valL (ds ++ [b]) : Nat) : Int) = ((valL (ds ++ [b]) : Nat) : Int) := w64 (by omega) (by omega)
    have e8 : wrap64 (at_ + 3 + 1) = at_ + 3 + 1 := w64 (by omega) (by omega)
    have e9 : wrap64 (2097152 * 128) = 268435456 := wlit (by decide) (by decide) (by decide)
    have k1 : at_ ≤ at_ + 3 + 1 := by omega
    have k2 : at_ + 3 + 1 ≤ (s.size : Int) := by omega
    simp only [if_true, e3, e4, e5, e6, e8, e9, k1, k2, ← hval]
    by_cases hb : b < 128
    · have hb' : ¬ b > 127 := not_big hb
      by_cases hg : ((valL (ds ++ [b]) : Nat) : Int) > 1000000000
      · have hbad : (valL ds : Int) + b % 128 * 2097152 > 1000000000 := by rw [← hval]; exact hg
        rw [rvF_stop hb' (Or.inr hbad)]
        simp only [hb, hg, if_true]
        exact Ev.now _
      · simp only [hb, hg, if_true, if_false]
        refine Ev.bind (spec_l01Var_ev (valL (ds ++ [b])) (lt_big hg)) ?_
        simp only [toList_iff, hext, varB, bytes_str (varN_isB _), hcan br.1 (lt_128 hb)]
        have hgood : ¬ (valL ds : Int) + b % 128 * 2097152 > 1000000000 := by rw [← hval]; exact hg
        by_cases hz : ds = [] ∨ b ≠ 0
        · have hq : ¬ (false = false ∧ b = 0) := by rcases hz with rfl | hz; exact absurd hl (by simp); exact fun h => hz h.2
          rw [rvF_take hb' hq hgood, ← hval]
          simp only [if_pos hz]
          exact Ev.now _
        · rw [rvF_stop hb' (Or.inl ⟨rfl, Classical.byContradiction fun h => hz (Or.inr h)⟩)]
          simp only [if_neg hz]
          exact Ev.now _
    · have hb' : b > 127 := is_big hb
      rw [rvF_more hb', rvOut_map, ← hval]
      simp only [hb, if_false]
      have hh := hnext hv' (big_app hd hb br.2)
      simpa only [k3, k4] using hh
  · simp only [spec_ReadVar.l0, c, if_false]
    apply ev_succ
    simp only [spec_ReadVar.j1, Bool.false_eq_true, if_false]
    rw [List.drop_of_length_le (by rw [bytes_len]; omega)]
    exact Ev.now _
theorem spec_ReadVar_i2 (s : ByteArray) (hs : s.size ≤ 140737488351232) (at_ : Int) (h0 : 0 ≤ at_) (h1 : at_ ≤ s.size) (ds : List Int) (hl : ds.length = 2) (hd : ∀ d ∈ ds, 128 ≤ d ∧ d ≤ 255) (hv : valL ds < 16384) (hp : ds = ((bytesOf s).drop at_.toNat).take 2) :
    Ev (fun k => spec_ReadVar.l0 k s at_ (valL ds : Int) 16384 (at_ + 2)) (rvOut (at_ + 2) (rvF 3 16384 (valL ds : Int) false ((bytesOf s).drop (at_ + 2).toNat))) := by
  apply ev_succ
  have e1 : wrap64 (at_ + 5) = at_ + 5 := w64 (by omega) (by omega)
  have e2 : decide (at_ + 2 < at_ + 5) = true := decide_eq_true (by omega)
  by_cases c : at_ + 2 < (s.size : Int)
  · simp only [spec_ReadVar.l0, c, if_true, e1, e2]
    apply ev_succ
    rw [drop_bt s (at_ + 2) (by omega) c]
    have br := bt_range s (at_ + 2)
    have e0 : 0 ≤ at_ + 2 := by omega
    have e7 : (at_ + 2 + 1).toNat = (at_ + 3).toNat := by omega
    rw [e7]
    have k3 : at_ + 2 + 1 = at_ + 3 := by omega
    have k4 : (16384 : Int) * 128 = 2097152 := by decide
    simp only [spec_ReadVar.j1, c, if_true, e0, h0]
    have hp' : ds ++ [bt s (at_ + 2)] = ((bytesOf s).drop at_.toNat).take 3 := by
      have h3 : ((bytesOf s).drop at_.toNat)[2]? = some (bt s (at_ + 2)) := by
        rw [List.getElem?_drop, bt_rd, List.getD_eq_getElem?_getD, show (at_ + 2).toNat = at_.toNat + 2 by omega, List.getElem?_eq_getElem (by rw [bytes_len]; omega)]
        rfl
      rw [List.take_add_one, ← hp, h3]
      rfl
    have hvs := valL_snoc ds (bt s (at_ + 2))
    rw [hl] at hvs
    have hx : bytesOf (s.extract at_.toNat (at_ + 2 + 1).toNat) = ds ++ [bt s (at_ + 2)] := by
      rw [bytes_ext, hp', show (at_ + 2 + 1).toNat - at_.toNat = 3 by omega]
    have hnext := fun hv' hd' => spec_ReadVar_i3 s hs at_ h0 h1 (ds ++ [bt s (at_ + 2)]) (by simp [hl]) hd' hv' hp'
    have hcan := canon ds (bt s (at_ + 2)) hd
    have hext : ∀ X : ByteArray, X = s.extract at_.toNat (at_ + 2 + 1).toNat ↔ bytesOf X = ds ++ [bt s (at_ + 2)] := fun X => ⟨fun h => by rw [h, hx], fun h => bytes_inj (by rw [h, hx])⟩
    generalize bt s (at_ + 2) = b at br hnext hvs hcan hext hp' ⊢
    have hval : ((valL (ds ++ [b]) : Nat) : Int) = (valL ds : Int) + b % 128 * 16384 := by
      rw [hvs]; omega
    have hv' : valL (ds ++ [b]) < 2097152 := by clear hnext hext hcan hp' hd hp; omega
    have e3 : wrap64 b = b := w64 (by omega) (by omega)
    have e4 : Int.tmod b 128 = b % 128 := Int.tmod_eq_emod_of_nonneg (by omega)
    have e5 : wrap64 (b % 128 * 16384) = b % 128 * 16384 := w64 (by omega) (by omega)
    have e6 : wrap64 ((valL (ds ++ [b]) : Nat) : Int) = ((valL (ds ++ [b]) : Nat) : Int) := w64 (by omega) (by omega)
    have e8 : wrap64 (at_ + 2 + 1) = at_ + 2 + 1 := w64 (by omega) (by omega)
    have e9 : wrap64 (16384 * 128) = 2097152 := wlit (by decide) (by decide) (by decide)
    have k1 : at_ ≤ at_ + 2 + 1 := by omega
    have k2 : at_ + 2 + 1 ≤ (s.size : Int) := by omega
    simp only [if_true, e3, e4, e5, e6, e8, e9, k1, k2, ← hval]
    by_cases hb : b < 128
    · have hb' : ¬ b > 127 := not_big hb
      by_cases hg : ((valL (ds ++ [b]) : Nat) : Int) > 1000000000
      · have hbad : (valL ds : Int) + b % 128 * 16384 > 1000000000 := by rw [← hval]; exact hg
        rw [rvF_stop hb' (Or.inr hbad)]
        simp only [hb, hg, if_true]
        exact Ev.now _
      · simp only [hb, hg, if_true, if_false]
        refine Ev.bind (spec_l01Var_ev (valL (ds ++ [b])) (lt_big hg)) ?_
        simp only [toList_iff, hext, varB, bytes_str (varN_isB _), hcan br.1 (lt_128 hb)]
        have hgood : ¬ (valL ds : Int) + b % 128 * 16384 > 1000000000 := by rw [← hval]; exact hg
        by_cases hz : ds = [] ∨ b ≠ 0
        · have hq : ¬ (false = false ∧ b = 0) := by rcases hz with rfl | hz; exact absurd hl (by simp); exact fun h => hz h.2
          rw [rvF_take hb' hq hgood, ← hval]
          simp only [if_pos hz]
          exact Ev.now _
        · rw [rvF_stop hb' (Or.inl ⟨rfl, Classical.byContradiction fun h => hz (Or.inr h)⟩)]
          simp only [if_neg hz]
          exact Ev.now _
    · have hb' : b > 127 := is_big hb
      rw [rvF_more hb', rvOut_map, ← hval]
      simp only [hb, if_false]
      have hh := hnext hv' (big_app hd hb br.2)
      simpa only [k3, k4] using hh
  · simp only [spec_ReadVar.l0, c, if_false]
    apply ev_succ
    simp only [spec_ReadVar.j1, Bool.false_eq_true, if_false]
    rw [List.drop_of_length_le (by rw [bytes_len]; omega)]
    exact Ev.now _
theorem spec_ReadVar_i1 (s : ByteArray) (hs : s.size ≤ 140737488351232) (at_ : Int) (h0 : 0 ≤ at_) (h1 : at_ ≤ s.size) (ds : List Int) (hl : ds.length = 1) (hd : ∀ d ∈ ds, 128 ≤ d ∧ d ≤ 255) (hv : valL ds < 128) (hp : ds = ((bytesOf s).drop at_.toNat).take 1) :
    Ev (fun k => spec_ReadVar.l0 k s at_ (valL ds : Int) 128 (at_ + 1)) (rvOut (at_ + 1) (rvF 4 128 (valL ds : Int) false ((bytesOf s).drop (at_ + 1).toNat))) := by
  apply ev_succ
  have e1 : wrap64 (at_ + 5) = at_ + 5 := w64 (by omega) (by omega)
  have e2 : decide (at_ + 1 < at_ + 5) = true := decide_eq_true (by omega)
  by_cases c : at_ + 1 < (s.size : Int)
  · simp only [spec_ReadVar.l0, c, if_true, e1, e2]
    apply ev_succ
    rw [drop_bt s (at_ + 1) (by omega) c]
    have br := bt_range s (at_ + 1)
    have e0 : 0 ≤ at_ + 1 := by omega
    have e7 : (at_ + 1 + 1).toNat = (at_ + 2).toNat := by omega
    rw [e7]
    have k3 : at_ + 1 + 1 = at_ + 2 := by omega
    have k4 : (128 : Int) * 128 = 16384 := by decide
    simp only [spec_ReadVar.j1, c, if_true, e0, h0]
    have hp' : ds ++ [bt s (at_ + 1)] = ((bytesOf s).drop at_.toNat).take 2 := by
      have h3 : ((bytesOf s).drop at_.toNat)[1]? = some (bt s (at_ + 1)) := by
        rw [List.getElem?_drop, bt_rd, List.getD_eq_getElem?_getD, show (at_ + 1).toNat = at_.toNat + 1 by omega, List.getElem?_eq_getElem (by rw [bytes_len]; omega)]
        rfl
      rw [List.take_add_one, ← hp, h3]
      rfl
    have hvs := valL_snoc ds (bt s (at_ + 1))
    rw [hl] at hvs
    have hx : bytesOf (s.extract at_.toNat (at_ + 1 + 1).toNat) = ds ++ [bt s (at_ + 1)] := by
      rw [bytes_ext, hp', show (at_ + 1 + 1).toNat - at_.toNat = 2 by omega]
    have hnext := fun hv' hd' => spec_ReadVar_i2 s hs at_ h0 h1 (ds ++ [bt s (at_ + 1)]) (by simp [hl]) hd' hv' hp'
    have hcan := canon ds (bt s (at_ + 1)) hd
    have hext : ∀ X : ByteArray, X = s.extract at_.toNat (at_ + 1 + 1).toNat ↔ bytesOf X = ds ++ [bt s (at_ + 1)] := fun X => ⟨fun h => by rw [h, hx], fun h => bytes_inj (by rw [h, hx])⟩
    generalize bt s (at_ + 1) = b at br hnext hvs hcan hext hp' ⊢
    have hval : ((valL (ds ++ [b]) : Nat) : Int) = (valL ds : Int) + b % 128 * 128 := by
      rw [hvs]; omega
    have hv' : valL (ds ++ [b]) < 16384 := by clear hnext hext hcan hp' hd hp; omega
    have e3 : wrap64 b = b := w64 (by omega) (by omega)
    have e4 : Int.tmod b 128 = b % 128 := Int.tmod_eq_emod_of_nonneg (by omega)
    have e5 : wrap64 (b % 128 * 128) = b % 128 * 128 := w64 (by omega) (by omega)
    have e6 : wrap64 ((valL (ds ++ [b]) : Nat) : Int) = ((valL (ds ++ [b]) : Nat) : Int) := w64 (by omega) (by omega)
    have e8 : wrap64 (at_ + 1 + 1) = at_ + 1 + 1 := w64 (by omega) (by omega)
    have e9 : wrap64 (128 * 128) = 16384 := wlit (by decide) (by decide) (by decide)
    have k1 : at_ ≤ at_ + 1 + 1 := by omega
    have k2 : at_ + 1 + 1 ≤ (s.size : Int) := by omega
    simp only [if_true, e3, e4, e5, e6, e8, e9, k1, k2, ← hval]
    by_cases hb : b < 128
    · have hb' : ¬ b > 127 := not_big hb
      by_cases hg : ((valL (ds ++ [b]) : Nat) : Int) > 1000000000
      · have hbad : (valL ds : Int) + b % 128 * 128 > 1000000000 := by rw [← hval]; exact hg
        rw [rvF_stop hb' (Or.inr hbad)]
        simp only [hb, hg, if_true]
        exact Ev.now _
      · simp only [hb, hg, if_true, if_false]
        refine Ev.bind (spec_l01Var_ev (valL (ds ++ [b])) (lt_big hg)) ?_
        simp only [toList_iff, hext, varB, bytes_str (varN_isB _), hcan br.1 (lt_128 hb)]
        have hgood : ¬ (valL ds : Int) + b % 128 * 128 > 1000000000 := by rw [← hval]; exact hg
        by_cases hz : ds = [] ∨ b ≠ 0
        · have hq : ¬ (false = false ∧ b = 0) := by rcases hz with rfl | hz; exact absurd hl (by simp); exact fun h => hz h.2
          rw [rvF_take hb' hq hgood, ← hval]
          simp only [if_pos hz]
          exact Ev.now _
        · rw [rvF_stop hb' (Or.inl ⟨rfl, Classical.byContradiction fun h => hz (Or.inr h)⟩)]
          simp only [if_neg hz]
          exact Ev.now _
    · have hb' : b > 127 := is_big hb
      rw [rvF_more hb', rvOut_map, ← hval]
      simp only [hb, if_false]
      have hh := hnext hv' (big_app hd hb br.2)
      simpa only [k3, k4] using hh
  · simp only [spec_ReadVar.l0, c, if_false]
    apply ev_succ
    simp only [spec_ReadVar.j1, Bool.false_eq_true, if_false]
    rw [List.drop_of_length_le (by rw [bytes_len]; omega)]
    exact Ev.now _
theorem spec_ReadVar_i0 (s : ByteArray) (hs : s.size ≤ 140737488351232) (at_ : Int) (h0 : 0 ≤ at_) (h1 : at_ ≤ s.size) (ds : List Int) (hl : ds.length = 0) (hd : ∀ d ∈ ds, 128 ≤ d ∧ d ≤ 255) (hv : valL ds < 1) (hp : ds = ((bytesOf s).drop at_.toNat).take 0) :
    Ev (fun k => spec_ReadVar.l0 k s at_ (valL ds : Int) 1 (at_ + 0)) (rvOut (at_ + 0) (rvF 5 1 (valL ds : Int) true ((bytesOf s).drop (at_ + 0).toNat))) := by
  apply ev_succ
  have e1 : wrap64 (at_ + 5) = at_ + 5 := w64 (by omega) (by omega)
  have e2 : decide (at_ + 0 < at_ + 5) = true := decide_eq_true (by omega)
  by_cases c : at_ + 0 < (s.size : Int)
  · simp only [spec_ReadVar.l0, c, if_true, e1, e2]
    apply ev_succ
    rw [drop_bt s (at_ + 0) (by omega) c]
    have br := bt_range s (at_ + 0)
    have e0 : 0 ≤ at_ + 0 := by omega
    have e7 : (at_ + 0 + 1).toNat = (at_ + 1).toNat := by omega
    rw [e7]
    have k3 : at_ + 0 + 1 = at_ + 1 := by omega
    have k4 : (1 : Int) * 128 = 128 := by decide
    simp only [spec_ReadVar.j1, c, if_true, e0, h0]
    have hp' : ds ++ [bt s (at_ + 0)] = ((bytesOf s).drop at_.toNat).take 1 := by
      have h3 : ((bytesOf s).drop at_.toNat)[0]? = some (bt s (at_ + 0)) := by
        rw [List.getElem?_drop, bt_rd, List.getD_eq_getElem?_getD, show (at_ + 0).toNat = at_.toNat + 0 by omega, List.getElem?_eq_getElem (by rw [bytes_len]; omega)]
        rfl
      rw [List.take_add_one, ← hp, h3]
      rfl
    have hvs := valL_snoc ds (bt s (at_ + 0))
    rw [hl] at hvs
    have hx : bytesOf (s.extract at_.toNat (at_ + 0 + 1).toNat) = ds ++ [bt s (at_ + 0)] := by
      rw [bytes_ext, hp', show (at_ + 0 + 1).toNat - at_.toNat = 1 by omega]
    have hnext := fun hv' hd' => spec_ReadVar_i1 s hs at_ h0 h1 (ds ++ [bt s (at_ + 0)]) (by simp [hl]) hd' hv' hp'
    have hcan := canon ds (bt s (at_ + 0)) hd
    have hext : ∀ X : ByteArray, X = s.extract at_.toNat (at_ + 0 + 1).toNat ↔ bytesOf X = ds ++ [bt s (at_ + 0)] := fun X => ⟨fun h => by rw [h, hx], fun h => bytes_inj (by rw [h, hx])⟩
    generalize bt s (at_ + 0) = b at br hnext hvs hcan hext hp' ⊢
    have hval : ((valL (ds ++ [b]) : Nat) : Int) = (valL ds : Int) + b % 128 * 1 := by
      rw [hvs]; omega
    have hv' : valL (ds ++ [b]) < 128 := by clear hnext hext hcan hp' hd hp; omega
    have e3 : wrap64 b = b := w64 (by omega) (by omega)
    have e4 : Int.tmod b 128 = b % 128 := Int.tmod_eq_emod_of_nonneg (by omega)
    have e5 : wrap64 (b % 128 * 1) = b % 128 * 1 := w64 (by omega) (by omega)
    have e6 : wrap64 ((valL (ds ++ [b]) : Nat) : Int) = ((valL (ds ++ [b]) : Nat) : Int) := w64 (by omega) (by omega)
    have e8 : wrap64 (at_ + 0 + 1) = at_ + 0 + 1 := w64 (by omega) (by omega)
    have e9 : wrap64 (1 * 128) = 128 := wlit (by decide) (by decide) (by decide)
    have k1 : at_ ≤ at_ + 0 + 1 := by omega
    have k2 : at_ + 0 + 1 ≤ (s.size : Int) := by omega
    simp only [if_true, e3, e4, e5, e6, e8, e9, k1, k2, ← hval]
    by_cases hb : b < 128
    · have hb' : ¬ b > 127 := not_big hb
      by_cases hg : ((valL (ds ++ [b]) : Nat) : Int) > 1000000000
      · have hbad : (valL ds : Int) + b % 128 * 1 > 1000000000 := by rw [← hval]; exact hg
        rw [rvF_stop hb' (Or.inr hbad)]
        simp only [hb, hg, if_true]
        exact Ev.now _
      · simp only [hb, hg, if_true, if_false]
        refine Ev.bind (spec_l01Var_ev (valL (ds ++ [b])) (lt_big hg)) ?_
        simp only [toList_iff, hext, varB, bytes_str (varN_isB _), hcan br.1 (lt_128 hb)]
        have hgood : ¬ (valL ds : Int) + b % 128 * 1 > 1000000000 := by rw [← hval]; exact hg
        by_cases hz : ds = [] ∨ b ≠ 0
        · have hq : ¬ (true = false ∧ b = 0) := by simp
          rw [rvF_take hb' hq hgood, ← hval]
          simp only [if_pos hz]
          exact Ev.now _
        · exact absurd (Or.inl (List.eq_nil_of_length_eq_zero hl)) hz

    · have hb' : b > 127 := is_big hb
      rw [rvF_more hb', rvOut_map, ← hval]
      simp only [hb, if_false]
      have hh := hnext hv' (big_app hd hb br.2)
      simpa only [k3, k4] using hh
  · simp only [spec_ReadVar.l0, c, if_false]
    apply ev_succ
    simp only [spec_ReadVar.j1, Bool.false_eq_true, if_false]
    rw [List.drop_of_length_le (by rw [bytes_len]; omega)]
    exact Ev.now _
theorem spec_ReadVar_ev (s : ByteArray) (hs : s.size ≤ 140737488351232) (at_ : Int) : Ev (fun k => spec_ReadVar.f k s at_) (pReadVar s at_) := by
  simp only [spec_ReadVar.f]
  refine Ev.bind (spec_l01In_ev _ _ _) ?_
  by_cases h : 0 ≤ at_ ∧ at_ ≤ (s.size : Int)
  · simp only [h, and_self, decide_true, if_true]
    rw [pReadVar_in h]
    have hh := spec_ReadVar_i0 s hs at_ h.1 h.2 [] rfl (by simp) (by decide) (by simp)
    simpa only [Int.add_zero, valL, Int.natCast_zero] using hh
  · simp only [h, decide_false, Bool.false_eq_true, if_false]
    rw [pReadVar_out h]
    exact Ev.now _

theorem spec_SumMore_l1 (s : ByteArray) (i : Int) (h0 : 0 ≤ i) (h1 : i < s.size) (hs : s.size ≤ 140737488351232) (r : Int) : ∀ (m : Nat) (j x : Int), 0 ≤ j → j + m = 8 →
    Ev (fun k => spec_SumMore.l0 k (crcK m x) s (i + 1)) r → Ev (fun k => spec_SumMore.l1 k x s i j) r := by
  intro m
  induction m with
  | zero =>
    intro j x hj hm h
    apply ev_succ
    have c : ¬ j < 8 := by omega
    have e : wrap64 (i + 1) = i + 1 := w64 (by omega) (by omega)
    simp only [spec_SumMore.l1, c, if_false, e]
    exact h
  | succ m ih =>
    intro j x hj hm h
    apply ev_succ
    have c : j < 8 := by omega
    have e : wrap64 (j + 1) = j + 1 := w64 (by omega) (by omega)
    have hh := ih (j + 1) (crc1 x) (by omega) (by omega) h
    by_cases o : Int.tmod x 2 = 1
    · simp only [crc1, o, if_true] at hh
      simp only [spec_SumMore.l1, c, o, if_true, e]
      exact hh
    · simp only [crc1, o, if_false] at hh
      simp only [spec_SumMore.l1, c, o, if_true, if_false, e]
      exact hh
theorem spec_SumMore_l0 (s : ByteArray) (hs : s.size ≤ 140737488351232) : ∀ (d : Nat) (i : Int) (x : Int), 0 ≤ i → i + d = s.size →
    Ev (fun k => spec_SumMore.l0 k x s i) (crcL x ((bytesOf s).drop i.toNat)) := by
  intro d
  induction d with
  | zero =>
    intro i x h0 h
    apply ev_succ
    have c : ¬ i < (s.size : Int) := by omega
    simp only [spec_SumMore.l0, c, if_false]
    apply ev_some
    rw [List.drop_of_length_le (by rw [bytes_len]; omega)]; rfl
  | succ d ih =>
    intro i x h0 h
    apply ev_succ
    have c : i < (s.size : Int) := by omega
    simp only [spec_SumMore.l0, c, h0, if_true]
    have hh := ih (i + 1) (crcB x (bt s i)) (by omega) (by omega)
    rw [drop_bt s i h0 c]
    exact spec_SumMore_l1 s i h0 c hs _ 8 0 _ (by omega) (by omega) hh
theorem spec_SumMore_ev (x : Int) (s : ByteArray) (hs : s.size ≤ 140737488351232) : Ev (fun k => spec_SumMore.f k x s) (crcL x (bytesOf s)) := by
  simp only [spec_SumMore.f]
  exact spec_SumMore_l0 s hs s.size 0 x (by omega) (by omega)

theorem spec_SumOf_ev (s : ByteArray) (hs : s.size ≤ 140737488351232) : Ev (fun k => spec_SumOf.f k s) (sumN s) := by
  simp only [spec_SumOf.f]
  exact Ev.bind (spec_SumMore_ev _ s hs) (Ev.now _)

theorem spec_l02Four_ev (x : Int) : Ev (fun _ => spec_l02Four.f x) (strOfNums (four x)) := ev_const rfl

theorem spec_Frame_ev (s : ByteArray) (hs : s.size ≤ 140737488351232) : Ev (fun k => spec_Frame.f k s) (pFrame s) := by
  simp only [spec_Frame.f]
  refine Ev.bind (spec_l01In_ev _ _ _) ?_
  by_cases h : 1 ≤ s.size ∧ s.size ≤ 9000
  · have h' : 1 ≤ (s.size : Int) ∧ (s.size : Int) ≤ 9000 := by omega
    simp only [h', and_self, decide_true, if_true]
    refine Ev.bind (spec_l01Var_ev s.size (by omega)) ?_
    refine Ev.bind (spec_SumOf_ev s hs) ?_
    refine Ev.bind (spec_l02Four_ev _) ?_
    rw [pFrame_yes h]
    have hv := (varN_len s.size).2
    have c1 : (varB s.size).size + (strOfNums (four (sumN s))).size ≤ 9223372036854775807 := by rw [varB, str_len, str_len]; simp [four]; omega
    have c2 : (varB s.size ++ strOfNums (four (sumN s))).size + s.size ≤ 9223372036854775807 := by rw [size_app, varB, str_len, str_len]; simp [four]; omega
    simp only [c1, c2, if_true]
    exact Ev.now _
  · have h' : ¬ (1 ≤ (s.size : Int) ∧ (s.size : Int) ≤ 9000) := by omega
    simp only [h', decide_false, Bool.false_eq_true, if_false]
    rw [pFrame_no h]
    exact Ev.now _

theorem spec_Unframe_l0 (s : ByteArray) (hs : s.size ≤ 20000) : ∀ (d : Nat) (at_ : Int) (acc : List ByteArray), 0 ≤ at_ → at_ ≤ s.size → s.size - at_ < d → acc.length ≤ at_ →
    Ev (fun k => spec_Unframe.l0 k s acc at_) (pUnfr s d acc at_) := by
  intro d
  induction d with
  | zero => intro at_ acc h0 h1 h2; omega
  | succ d ih =>
    intro at_ acc h0 h1 h2 h3
    apply ev_succ
    by_cases cs : at_ < (s.size : Int)
    · simp only [spec_Unframe.l0, cs, if_true]
      have hstop : ¬ uOk s at_ → ∀ n m, Ev (fun k => spec_Unframe.j1 k s acc at_ n m true) (pUnfr s (d + 1) acc at_) := by
        intro hn n m
        apply ev_succ
        simp only [spec_Unframe.j1, if_true]
        rw [pUnfr_no hn]
        exact Ev.now _
      refine Ev.bind (spec_ReadVar_ev s (by omega) at_) ?_
      by_cases ho : (pReadVar s at_).2.2 = true
      · have hb := pReadVar_ok s at_ ho
        have hgo := fun (hu : uOk s at_) => ih (uNext s at_) (acc ++ [uRec s at_]) (by have := uOk_next hu; omega) (uOk_next hu).2 (by have := uOk_next hu; omega) (by have := uOk_next hu; simp; omega)
        have hyes := fun (hu : uOk s at_) => pUnfr_yes (s := s) (f := d) (acc := acc) hu
        simp only [ho, if_true]
        have e1 : wrap64 ((s.size : Int) - (pReadVar s at_).2.1) = s.size - (pReadVar s at_).2.1 := w64 (by omega) (by omega)
        have e2 : wrap64 ((s.size : Int) - (pReadVar s at_).2.1 - 4) = s.size - (pReadVar s at_).2.1 - 4 := w64 (by omega) (by omega)
        rw [e1, e2]
        by_cases hq : (pReadVar s at_).1 > s.size - (pReadVar s at_).2.1 - 4
        · simp only [hq, decide_true]
          exact hstop (fun hu => by have := hu.2.2.1; omega) _ _
        · simp only [hq, decide_false]
          apply ev_succ
          have e3 : wrap64 ((pReadVar s at_).2.1 + 4) = (pReadVar s at_).2.1 + 4 := w64 (by omega) (by omega)
          have e4 : wrap64 ((pReadVar s at_).2.1 + 4 + (pReadVar s at_).1) = (pReadVar s at_).2.1 + 4 + (pReadVar s at_).1 := w64 (by omega) (by omega)
          have k1 : 0 ≤ (pReadVar s at_).2.1 + 4 := by omega
          have k2 : (pReadVar s at_).2.1 + 4 ≤ (pReadVar s at_).2.1 + 4 + (pReadVar s at_).1 := by omega
          have k3 : (pReadVar s at_).2.1 + 4 + (pReadVar s at_).1 ≤ (s.size : Int) := by omega
          have k4 : at_ ≤ (pReadVar s at_).2.1 + 4 + (pReadVar s at_).1 := by omega
          have hsz : (uRec s at_).size = (pReadVar s at_).1.toNat := by unfold uRec; rw [size_ext]; omega
          have hsz2 : (uRec s at_).size ≤ 140737488351232 := by omega
          simp only [spec_Unframe.j1, Bool.false_eq_true, if_false, e3, e4, k1, k2, k3, if_true]
          refine Ev.bind (spec_Frame_ev (uRec s at_) hsz2) ?_
          have ha : acc.length < 8796093022208 := by omega
          by_cases hn : 1 ≤ (pReadVar s at_).1 ∧ (pReadVar s at_).1 ≤ 9000
          · rw [pFrame_yes (by omega)]
            have hiff := frame_iff s at_ ho hn (by omega)
            unfold uNext at hiff
            simp only [h0, k4, if_true, toList_iff, ha, hiff]
            by_cases hx : strOfNums (four (sumN (uRec s at_))) = s.extract (pReadVar s at_).2.1.toNat ((pReadVar s at_).2.1 + 4).toNat
            · have hu : uOk s at_ := ⟨ho, hn, by omega, hx⟩
              rw [hyes hu]
              simp only [hx, if_true]
              exact hgo hu
            · rw [pUnfr_no (fun hu => hx hu.2.2.2)]
              simp only [hx, if_false]
              exact Ev.now _
          · rw [pFrame_no (by omega), pUnfr_no (fun hu => hn hu.2.1)]
            simp only [Bool.false_eq_true, if_false]
            exact Ev.now _
      · simp only [ho, if_false]
        exact hstop (fun hu => ho hu.1) _ _
    · simp only [spec_Unframe.l0, cs, if_false]
      rw [pUnfr_no (fun hu => by have := uOk_next hu; omega)]
      exact Ev.now _
theorem spec_Unframe_ev (s : ByteArray) (hs : s.size ≤ 1048576) : Ev (fun k => spec_Unframe.f k s) (pUnframe s) := by
  simp only [spec_Unframe.f, Option.bind_some]
  by_cases h : s.size ≤ 20000
  · have c : ¬ (s.size : Int) > 20000 := by omega
    simp only [c, if_false]
    rw [pUnframe, if_pos h]
    exact spec_Unframe_l0 s h (s.size + 1) 0 [] (by omega) (by omega) (by omega) (by simp)
  · have c : (s.size : Int) > 20000 := by omega
    simp only [c, if_true]
    rw [pUnframe, if_neg h]
    exact Ev.now _

theorem laws_markText_l0 (n : Nat) : ∀ s : ByteArray, s.size + n ≤ 140737488355328 → Ev (fun k => laws_markText.l0 k (n : Int) s) (decF n s) := by
  induction n using Nat.strongRecOn with
  | ind n ih =>
    intro s hs
    apply ev_succ
    by_cases hn : n = 0
    · subst hn
      have c : ¬ ((0 : Nat) : Int) > 0 := by omega
      have c2 : 1 + s.size ≤ 9223372036854775807 := by omega
      simp only [laws_markText.l0, c, c2, if_true, if_false]
      rw [decF_zero]
      exact Ev.now _
    · have c : (n : Int) > 0 := by omega
      have e1 : wrap64 (48 + Int.tmod (n : Int) 10) % 256 = ((48 + n % 10 : Nat) : Int) := by
        rw [Int.tmod_eq_emod_of_nonneg (by omega), w64 (by omega) (by omega)]; omega
      have e2 : wrap64 (Int.tdiv (n : Int) 10) = ((n / 10 : Nat) : Int) := by
        rw [Int.tdiv_eq_ediv_of_nonneg (by omega), w64 (by omega) (by omega)]; omega
      have c2 : (strOfNums [((48 + n % 10 : Nat) : Int)]).size + s.size ≤ 9223372036854775807 := by rw [str_len]; simp; omega
      simp only [laws_markText.l0, c, if_true, e1, e2, Option.bind_some, c2]
      rw [decF_more hn]
      refine ih (n / 10) (by omega) _ ?_
      rw [size_app, str_len]; simp; omega
theorem laws_markText_ev (k : Int) (h : k ≤ 140737488355328) : Ev (fun n => laws_markText.f n k) (markT k) := by
  simp only [laws_markText.f]
  by_cases c : k ≤ 0
  · simp only [c, if_true]
    rw [markT, if_pos c]
    exact Ev.now _
  · simp only [c, if_false]
    rw [markT, if_neg c]
    obtain ⟨n, rfl⟩ := Int.eq_ofNat_of_zero_le (show 0 ≤ k by omega)
    have := laws_markText_l0 n ⟨#[]⟩ (by simp [ByteArray.size]; omega)
    simpa using this

theorem laws_eqStringS_ev (l : List ByteArray) (hl : l.length ≤ 140737488355328) : Ev (fun k => laws_eqStringS.f k l l) true := by
  simp only [laws_eqStringS.f, if_true]
  have key := loop_up (fun k (_ : Unit) i => laws_eqStringS.l0 k l l i) (l.length : Int) true (fun _ _ => True)
    (fun _ _ => by
      have c : ¬ (l.length : Int) < (l.length : Int) := by omega
      simp only [laws_eqStringS.l0, c, if_false]
      exact Ev.now _)
    (fun _ i h0 h1 _ ih => by
      have e2 : wrap64 (i + 1) = i + 1 := w64 (by omega) (by omega)
      simp only [laws_eqStringS.l0, h1, h0, if_true, e2]
      exact ih () trivial)
  exact key l.length 0 () (by omega) (by omega) trivial
def mkStr (a : Int) : Nat → List ByteArray
  | 0 => []
  | n + 1 => markT a :: mkStr (a + 1) n
theorem mkStr_len (a : Int) (n : Nat) : (mkStr a n).length = n := by
  induction n generalizing a with
  | zero => rfl
  | succ n ih => simp [mkStr, ih]
theorem mkStr_get (a : Int) (n i : Nat) (h : i < n) : (mkStr a n)[i]? = some (markT (a + i)) := by
  induction n generalizing a i with
  | zero => omega
  | succ n ih =>
    cases i with
    | zero => simp [mkStr]
    | succ i =>
      simp only [mkStr, List.getElem?_cons_succ]
      rw [ih _ _ (by omega), show a + 1 + (i : Int) = a + ((i + 1 : Nat) : Int) by omega]
theorem laws_markStringS_ev (l : List ByteArray) (a : Int) (ha : 0 ≤ a) (hb : a ≤ 70368744177664) (hl : l.length ≤ 1099511627776) : Ev (fun k => laws_markStringS.f k l a) (a + l.length, mkStr a l.length) := by
  simp only [laws_markStringS.f]
  have key := loop_up (fun k (s : List ByteArray × Int) i => laws_markStringS.l0 k s.1 s.2 i) (l.length : Int) (a + l.length, mkStr a l.length)
    (fun s i => s.1.length = l.length ∧ s.2 = a + i ∧ s.1.take i.toNat = (mkStr a l.length).take i.toNat)
    (fun s hs => by
      obtain ⟨b, x⟩ := s
      obtain ⟨hb, rfl, ht⟩ := hs
      simp only at hb ht ⊢
      have c : ¬ (l.length : Int) < (b.length : Int) := by omega
      simp only [laws_markStringS.l0, c, if_false]
      apply ev_some
      rw [List.take_of_length_le (by omega), List.take_of_length_le (by rw [mkStr_len]; omega)] at ht
      rw [ht])
    (fun s i h0 h1 hs ih => by
      obtain ⟨b, x⟩ := s
      obtain ⟨hb, rfl, ht⟩ := hs
      simp only at hb ht ⊢
      have c : i < (b.length : Int) := by omega
      have hfin := ih (b.set i.toNat (markT (a + i)), a + i + 1) ⟨by simp [hb], by simp only; omega, by
        simp only
        rw [show (i + 1).toNat = i.toNat + 1 by omega]
        refine take_set (mkStr a l.length) b i.toNat _ (by rw [mkStr_len]; exact hb) (by rw [mkStr_len]; omega) ht ?_
        rw [mkStr_get _ _ _ (by omega), show ((i.toNat : Nat) : Int) = i by omega]⟩
      have e1 : wrap64 (a + i + 1) = a + i + 1 := w64 (by omega) (by omega)
      have e2 : wrap64 (i + 1) = i + 1 := w64 (by omega) (by omega)
      simp only [laws_markStringS.l0, c, if_true, e1, e2]
      refine Ev.bind (laws_markText_ev _ (by omega)) ?_
      simp only [h0, if_true]
      exact hfin)
  exact key l.length 0 (l, a) (by omega) (by omega) ⟨rfl, by simp, by simp⟩
theorem laws_heldStringS_ev (a : Int) (n : Nat) (ha : 0 ≤ a) (hb : a ≤ 70368744177664) (hn : n ≤ 1099511627776) : Ev (fun k => laws_heldStringS.f k (mkStr a n) a) (a + n) := by
  simp only [laws_heldStringS.f]
  have key := loop_up (fun k (s : Int) i => laws_heldStringS.l0 k (mkStr a n) s i) (n : Int) (a + n) (fun s i => s = a + i)
    (fun s hs => by
      subst hs
      have c : ¬ (n : Int) < ((mkStr a n).length : Int) := by rw [mkStr_len]; omega
      simp only [laws_heldStringS.l0, c, if_false]
      exact Ev.now _)
    (fun s i h0 h1 hs ih => by
      subst hs
      have hfin := ih (a + i + 1) (by omega)
      have c : i < ((mkStr a n).length : Int) := by rw [mkStr_len]; omega
      have he : rdOf ByteArray.empty (mkStr a n) i = markT (a + i) := by
        have hg := mkStr_get a n i.toNat (by omega)
        rw [show ((i.toNat : Nat) : Int) = i by omega] at hg
        unfold rdOf
        rw [List.getD_eq_getElem?_getD, hg]
        rfl
      have e1 : wrap64 (a + i + 1) = a + i + 1 := w64 (by omega) (by omega)
      have e2 : wrap64 (i + 1) = i + 1 := w64 (by omega) (by omega)
      simp only [laws_heldStringS.l0, c, h0, if_true, e1, e2, he]
      refine Ev.bind (laws_markText_ev _ (by omega)) ?_
      simp only [if_true]
      exact hfin)
  exact key n 0 a (by omega) (by omega) (by omega)

theorem FnExactUnframe : laws_FnExactUnframe.Pure := by
  intro a0 h0
  apply ev_rounds
  simp only [laws_FnExactUnframe.f]
  by_cases c : (a0.size : Int) > 1048576
  · simp only [c, if_true]; exact Ev.now _
  · simp only [c, if_false]
    have hs : a0.size ≤ 1048576 := by omega
    have hl : (pUnframe a0).1.length ≤ 20001 := by
      unfold pUnframe
      split
      · have := pUnfr_len a0 (a0.size + 1) [] 0
        simp only [List.length_nil] at this
        omega
      · simp
    have hm := laws_markStringS_ev (pUnframe a0).1 1 (by decide) (by decide) (by omega)
    have hh := laws_heldStringS_ev 1 (pUnframe a0).1.length (by decide) (by decide) (by omega)
    have he := laws_eqStringS_ev (pUnframe a0).1 (by omega)
    have c1 : ¬ (1 : Int) + ((pUnframe a0).1.length : Int) < 0 := by omega
    refine Ev.bind (spec_Unframe_ev a0 hs) ?_
    refine Ev.bind (impl_Unframe_ev a0 hs) ?_
    refine Ev.bind he ?_
    simp only [if_true, bne_self_eq_false]
    apply ev_succ
    simp only [laws_FnExactUnframe.j0, Bool.false_eq_true, if_false]
    refine Ev.bind hm ?_
    refine Ev.bind hh ?_
    simp only [c1, if_true, if_false]
    refine Ev.bind (impl_Unframe_ev a0 hs) ?_
    refine Ev.bind he ?_
    simp only [if_true, bne_self_eq_false]
    apply ev_succ
    simp only [laws_FnExactUnframe.j1, Bool.false_eq_true, if_false]
    refine Ev.bind hh ?_
    simp only [c1, if_true, if_false]
    exact Ev.now _

end Go.Proofs.Ytnnpbkocfboalaa.Pure
