/- ReadSnap of the program and of the reference answer the same for every text; the snapshot is new memory. -/
import Derived.Test.YtaainenplcokaaaQFnExactReadSnapx8
import Derived.Test.YtaainenplcokaaaBaseL
import Derived.Test.YtaainenplcokaaaBaseN
namespace Go.Proofs.Ytaainenplcokaaa.Pure
open Go.RowKit Go.Proofs.Ytaainenplcokaaa.QFnExactReadSnap Go.Proofs.YtaainenplcokaaaW.PrintWords Go.Proofs.YtaainenplcokaaaW.PrintLast Go.Proofs.YtaainenplcokaaaW.PrintMore Go.Proofs.Ytaainenplcokaaa.Base
set_option linter.unusedVariables false
set_option linter.unusedSimpArgs false

theorem impl_within_ev (a b c : Int) : Ev (fun _ => impl_within.f a b c) (decide (b ≤ a ∧ a ≤ c)) := by
  apply ev_const
  unfold impl_within.f
  by_cases h : a ≥ b
  · rw [if_pos h]; simp [show b ≤ a from h]
  · rw [if_neg h]; simp [show ¬ b ≤ a from h]

theorem impl_ReadVar_i5 (s : ByteArray) (at_ n : Int) (l : List Int) (sc : Int) : Ev (fun k => impl_ReadVar.l0 k s at_ n 5) (rvOut (at_ + 5) (rvF 0 sc n false l)) := by
  apply ev_succ
  simp only [impl_ReadVar.l0, show ¬ (5 : Int) < 5 by decide, if_false]
  apply ev_succ
  simp only [impl_ReadVar.j1, Bool.false_eq_true, if_false]
  exact Ev.now _
theorem impl_ReadVar_i4 (s : ByteArray) (hs : s.size ≤ 140737488351232) (at_ : Int) (h0 : 0 ≤ at_) (h1 : at_ ≤ s.size) (n : Int) (hn0 : 0 ≤ n) (hn : n < 268435456) :
    Ev (fun k => impl_ReadVar.l0 k s at_ n 4) (rvOut (at_ + 4) (rvF 1 268435456 n false ((bytesOf s).drop (at_ + 4).toNat))) := by
  apply ev_succ
  have e1 : wrap64 (at_ + 4) = at_ + 4 := w64 (by omega) (by omega)
  simp only [impl_ReadVar.l0, show (4 : Int) < 5 by decide, if_true, e1]
  apply ev_succ
  by_cases c : at_ + 4 < (s.size : Int)
  · rw [drop_bt s (at_ + 4) (by omega) c]
    have br := bt_range s (at_ + 4)
    have e0 : 0 ≤ at_ + 4 := by omega
    have e7 : (at_ + 4 + 1).toNat = (at_ + 5).toNat := by omega
    rw [e7]
    simp only [impl_ReadVar.j1, c, decide_true, if_true, e0, e1]
    have hnext := fun (m : Int) (_ _ : True) => impl_ReadVar_i5 s at_ m ((bytesOf s).drop (at_ + 5).toNat) 34359738368
    generalize bt s (at_ + 4) = b at br hnext ⊢
    have e2 : wrap64 b = b := w64 (by omega) (by omega)
    have e3 : Int.tmod b 128 = b % 128 := Int.tmod_eq_emod_of_nonneg (by omega)
    have e4 : wrap64 (7 * 4) = 28 := wlit (by decide) (by decide) (by decide)
    have e5 : shl .i64 (b % 128) 28 = b % 128 * 268435456 := shl7 (b % 128) 28 (by omega) (by omega) (by decide)
    have e6 : wrap64 (n + b % 128 * 268435456) = n + b % 128 * 268435456 := w64 (by omega) (by omega)
    have e8 : wrap64 (4 + 1) = 5 := wlit (by decide) (by decide) (by decide)
    have e9 : wrap64 (at_ + 4 + 1) = at_ + 4 + 1 := w64 (by omega) (by omega)
    simp only [if_true, e1, e2, e3, e4, e5, e6, e8, e9, show (0 : Int) ≤ 28 by decide, show (4 : Int) > 0 by decide]
    by_cases hb : b > 127
    · have hh := hnext (n + b % 128 * 268435456) trivial trivial
      rw [rvF_more hb, rvOut_map]
      simp only [hb, if_true]
      simpa only [show at_ + 4 + 1 = at_ + 5 by omega, show (268435456 : Int) * 128 = 34359738368 by decide] using hh
    · by_cases hz : b = 0
      · rw [rvF_stop hb (Or.inl ⟨rfl, hz⟩)]
        simp only [hb, hz, if_true, if_false]
        exact Ev.now _
      · by_cases hg : n + b % 128 * 268435456 > 1000000000
        · rw [rvF_stop hb (Or.inr hg)]
          simp only [hb, hz, hg, if_true, if_false]
          exact Ev.now _
        · rw [rvF_take hb (by simp [hz]) hg]
          simp only [hb, hz, hg, if_false]
          exact Ev.now _
  · simp only [impl_ReadVar.j1, c, decide_false, Bool.false_eq_true, if_false]
    rw [List.drop_of_length_le (by rw [bytes_len]; omega)]
    exact Ev.now _
theorem impl_ReadVar_i3 (s : ByteArray) (hs : s.size ≤ 140737488351232) (at_ : Int) (h0 : 0 ≤ at_) (h1 : at_ ≤ s.size) (n : Int) (hn0 : 0 ≤ n) (hn : n < 2097152) :
    Ev (fun k => impl_ReadVar.l0 k s at_ n 3) (rvOut (at_ + 3) (rvF 2 2097152 n false ((bytesOf s).drop (at_ + 3).toNat))) := by
  apply ev_succ
  have e1 : wrap64 (at_ + 3) = at_ + 3 := w64 (by omega) (by omega)
  simp only [impl_ReadVar.l0, show (3 : Int) < 5 by decide, if_true, e1]
  apply ev_succ
  by_cases c : at_ + 3 < (s.size : Int)
  · rw [drop_bt s (at_ + 3) (by omega) c]
    have br := bt_range s (at_ + 3)
    have e0 : 0 ≤ at_ + 3 := by omega
    have e7 : (at_ + 3 + 1).toNat = (at_ + 4).toNat := by omega
    rw [e7]
    simp only [impl_ReadVar.j1, c, decide_true, if_true, e0, e1]
    have hnext := fun (m : Int) (hm0 : 0 ≤ m) (hm : m < 268435456) => impl_ReadVar_i4 s hs at_ h0 h1 m hm0 hm
    generalize bt s (at_ + 3) = b at br hnext ⊢
    have e2 : wrap64 b = b := w64 (by omega) (by omega)
    have e3 : Int.tmod b 128 = b % 128 := Int.tmod_eq_emod_of_nonneg (by omega)
    have e4 : wrap64 (7 * 3) = 21 := wlit (by decide) (by decide) (by decide)
    have e5 : shl .i64 (b % 128) 21 = b % 128 * 2097152 := shl7 (b % 128) 21 (by omega) (by omega) (by decide)
    have e6 : wrap64 (n + b % 128 * 2097152) = n + b % 128 * 2097152 := w64 (by omega) (by omega)
    have e8 : wrap64 (3 + 1) = 4 := wlit (by decide) (by decide) (by decide)
    have e9 : wrap64 (at_ + 3 + 1) = at_ + 3 + 1 := w64 (by omega) (by omega)
    simp only [if_true, e1, e2, e3, e4, e5, e6, e8, e9, show (0 : Int) ≤ 21 by decide, show (3 : Int) > 0 by decide]
    by_cases hb : b > 127
    · have hh := hnext (n + b % 128 * 2097152) (by omega) (by omega)
      rw [rvF_more hb, rvOut_map]
      simp only [hb, if_true]
      simpa only [show at_ + 3 + 1 = at_ + 4 by omega, show (2097152 : Int) * 128 = 268435456 by decide] using hh
    · by_cases hz : b = 0
      · rw [rvF_stop hb (Or.inl ⟨rfl, hz⟩)]
        simp only [hb, hz, if_true, if_false]
        exact Ev.now _
      · by_cases hg : n + b % 128 * 2097152 > 1000000000
        · rw [rvF_stop hb (Or.inr hg)]
          simp only [hb, hz, hg, if_true, if_false]
          exact Ev.now _
        · rw [rvF_take hb (by simp [hz]) hg]
          simp only [hb, hz, hg, if_false]
          exact Ev.now _
  · simp only [impl_ReadVar.j1, c, decide_false, Bool.false_eq_true, if_false]
    rw [List.drop_of_length_le (by rw [bytes_len]; omega)]
    exact Ev.now _
theorem impl_ReadVar_i2 (s : ByteArray) (hs : s.size ≤ 140737488351232) (at_ : Int) (h0 : 0 ≤ at_) (h1 : at_ ≤ s.size) (n : Int) (hn0 : 0 ≤ n) (hn : n < 16384) :
    Ev (fun k => impl_ReadVar.l0 k s at_ n 2) (rvOut (at_ + 2) (rvF 3 16384 n false ((bytesOf s).drop (at_ + 2).toNat))) := by
  apply ev_succ
  have e1 : wrap64 (at_ + 2) = at_ + 2 := w64 (by omega) (by omega)
  simp only [impl_ReadVar.l0, show (2 : Int) < 5 by decide, if_true, e1]
  apply ev_succ
  by_cases c : at_ + 2 < (s.size : Int)
  · rw [drop_bt s (at_ + 2) (by omega) c]
    have br := bt_range s (at_ + 2)
    have e0 : 0 ≤ at_ + 2 := by omega
    have e7 : (at_ + 2 + 1).toNat = (at_ + 3).toNat := by omega
    rw [e7]
    simp only [impl_ReadVar.j1, c, decide_true, if_true, e0, e1]
    have hnext := fun (m : Int) (hm0 : 0 ≤ m) (hm : m < 2097152) => impl_ReadVar_i3 s hs at_ h0 h1 m hm0 hm
    generalize bt s (at_ + 2) = b at br hnext ⊢
    have e2 : wrap64 b = b := w64 (by omega) (by omega)
    have e3 : Int.tmod b 128 = b % 128 := Int.tmod_eq_emod_of_nonneg (by omega)
    have e4 : wrap64 (7 * 2) = 14 := wlit (by decide) (by decide) (by decide)
    have e5 : shl .i64 (b % 128) 14 = b % 128 * 16384 := shl7 (b % 128) 14 (by omega) (by omega) (by decide)
    have e6 : wrap64 (n + b % 128 * 16384) = n + b % 128 * 16384 := w64 (by omega) (by omega)
    have e8 : wrap64 (2 + 1) = 3 := wlit (by decide) (by decide) (by decide)
    have e9 : wrap64 (at_ + 2 + 1) = at_ + 2 + 1 := w64 (by omega) (by omega)
    simp only [if_true, e1, e2, e3, e4, e5, e6, e8, e9, show (0 : Int) ≤ 14 by decide, show (2 : Int) > 0 by decide]
    by_cases hb : b > 127
    · have hh := hnext (n + b % 128 * 16384) (by omega) (by omega)
      rw [rvF_more hb, rvOut_map]
      simp only [hb, if_true]
      simpa only [show at_ + 2 + 1 = at_ + 3 by omega, show (16384 : Int) * 128 = 2097152 by decide] using hh
    · by_cases hz : b = 0
      · rw [rvF_stop hb (Or.inl ⟨rfl, hz⟩)]
        simp only [hb, hz, if_true, if_false]
        exact Ev.now _
      · by_cases hg : n + b % 128 * 16384 > 1000000000
        · rw [rvF_stop hb (Or.inr hg)]
          simp only [hb, hz, hg, if_true, if_false]
          exact Ev.now _
        · rw [rvF_take hb (by simp [hz]) hg]
          simp only [hb, hz, hg, if_false]
          exact Ev.now _
  · simp only [impl_ReadVar.j1, c, decide_false, Bool.false_eq_true, if_false]
    rw [List.drop_of_length_le (by rw [bytes_len]; omega)]
    exact Ev.now _
theorem impl_ReadVar_i1 (s : ByteArray) (hs : s.size ≤ 140737488351232) (at_ : Int) (h0 : 0 ≤ at_) (h1 : at_ ≤ s.size) (n : Int) (hn0 : 0 ≤ n) (hn : n < 128) :
    Ev (fun k => impl_ReadVar.l0 k s at_ n 1) (rvOut (at_ + 1) (rvF 4 128 n false ((bytesOf s).drop (at_ + 1).toNat))) := by
  apply ev_succ
  have e1 : wrap64 (at_ + 1) = at_ + 1 := w64 (by omega) (by omega)
  simp only [impl_ReadVar.l0, show (1 : Int) < 5 by decide, if_true, e1]
  apply ev_succ
  by_cases c : at_ + 1 < (s.size : Int)
  · rw [drop_bt s (at_ + 1) (by omega) c]
    have br := bt_range s (at_ + 1)
    have e0 : 0 ≤ at_ + 1 := by omega
    have e7 : (at_ + 1 + 1).toNat = (at_ + 2).toNat := by omega
    rw [e7]
    simp only [impl_ReadVar.j1, c, decide_true, if_true, e0, e1]
    have hnext := fun (m : Int) (hm0 : 0 ≤ m) (hm : m < 16384) => impl_ReadVar_i2 s hs at_ h0 h1 m hm0 hm
    generalize bt s (at_ + 1) = b at br hnext ⊢
    have e2 : wrap64 b = b := w64 (by omega) (by omega)
    have e3 : Int.tmod b 128 = b % 128 := Int.tmod_eq_emod_of_nonneg (by omega)
    have e4 : wrap64 (7 * 1) = 7 := wlit (by decide) (by decide) (by decide)
    have e5 : shl .i64 (b % 128) 7 = b % 128 * 128 := shl7 (b % 128) 7 (by omega) (by omega) (by decide)
    have e6 : wrap64 (n + b % 128 * 128) = n + b % 128 * 128 := w64 (by omega) (by omega)
    have e8 : wrap64 (1 + 1) = 2 := wlit (by decide) (by decide) (by decide)
    have e9 : wrap64 (at_ + 1 + 1) = at_ + 1 + 1 := w64 (by omega) (by omega)
    simp only [if_true, e1, e2, e3, e4, e5, e6, e8, e9, show (0 : Int) ≤ 7 by decide, show (1 : Int) > 0 by decide]
    by_cases hb : b > 127
    · have hh := hnext (n + b % 128 * 128) (by omega) (by omega)
      rw [rvF_more hb, rvOut_map]
      simp only [hb, if_true]
      simpa only [show at_ + 1 + 1 = at_ + 2 by omega, show (128 : Int) * 128 = 16384 by decide] using hh
    · by_cases hz : b = 0
      · rw [rvF_stop hb (Or.inl ⟨rfl, hz⟩)]
        simp only [hb, hz, if_true, if_false]
        exact Ev.now _
      · by_cases hg : n + b % 128 * 128 > 1000000000
        · rw [rvF_stop hb (Or.inr hg)]
          simp only [hb, hz, hg, if_true, if_false]
          exact Ev.now _
        · rw [rvF_take hb (by simp [hz]) hg]
          simp only [hb, hz, hg, if_false]
          exact Ev.now _
  · simp only [impl_ReadVar.j1, c, decide_false, Bool.false_eq_true, if_false]
    rw [List.drop_of_length_le (by rw [bytes_len]; omega)]
    exact Ev.now _
theorem impl_ReadVar_i0 (s : ByteArray) (hs : s.size ≤ 140737488351232) (at_ : Int) (h0 : 0 ≤ at_) (h1 : at_ ≤ s.size) (n : Int) (hn0 : 0 ≤ n) (hn : n < 1) :
    Ev (fun k => impl_ReadVar.l0 k s at_ n 0) (rvOut (at_ + 0) (rvF 5 1 n true ((bytesOf s).drop (at_ + 0).toNat))) := by
  apply ev_succ
  have e1 : wrap64 (at_ + 0) = at_ + 0 := w64 (by omega) (by omega)
  simp only [impl_ReadVar.l0, show (0 : Int) < 5 by decide, if_true, e1]
  apply ev_succ
  by_cases c : at_ + 0 < (s.size : Int)
  · rw [drop_bt s (at_ + 0) (by omega) c]
    have br := bt_range s (at_ + 0)
    have e0 : 0 ≤ at_ + 0 := by omega
    have e7 : (at_ + 0 + 1).toNat = (at_ + 1).toNat := by omega
    rw [e7]
    simp only [impl_ReadVar.j1, c, decide_true, if_true, e0, e1]
    have hnext := fun (m : Int) (hm0 : 0 ≤ m) (hm : m < 128) => impl_ReadVar_i1 s hs at_ h0 h1 m hm0 hm
    generalize bt s (at_ + 0) = b at br hnext ⊢
    have e2 : wrap64 b = b := w64 (by omega) (by omega)
    have e3 : Int.tmod b 128 = b % 128 := Int.tmod_eq_emod_of_nonneg (by omega)
    have e4 : wrap64 (7 * 0) = 0 := wlit (by decide) (by decide) (by decide)
    have e5 : shl .i64 (b % 128) 0 = b % 128 * 1 := shl7 (b % 128) 0 (by omega) (by omega) (by decide)
    have e6 : wrap64 (n + b % 128 * 1) = n + b % 128 * 1 := w64 (by omega) (by omega)
    have e8 : wrap64 (0 + 1) = 1 := wlit (by decide) (by decide) (by decide)
    have e9 : wrap64 (at_ + 0 + 1) = at_ + 0 + 1 := w64 (by omega) (by omega)
    simp only [if_true, e1, e2, e3, e4, e5, e6, e8, e9, show (0 : Int) ≤ 0 by decide, show ¬ (0 : Int) > 0 by decide, if_false]
    by_cases hb : b > 127
    · have hh := hnext (n + b % 128 * 1) (by omega) (by omega)
      rw [rvF_more hb, rvOut_map]
      simp only [hb, if_true]
      simpa only [show at_ + 0 + 1 = at_ + 1 by omega, show (1 : Int) * 128 = 128 by decide] using hh
    · by_cases hg : n + b % 128 * 1 > 1000000000
      · rw [rvF_stop hb (Or.inr hg)]
        simp only [hb, hg, if_true, if_false]
        exact Ev.now _
      · rw [rvF_take hb (by simp) hg]
        simp only [hb, hg, if_false]
        exact Ev.now _
  · simp only [impl_ReadVar.j1, c, decide_false, Bool.false_eq_true, if_false]
    rw [List.drop_of_length_le (by rw [bytes_len]; omega)]
    exact Ev.now _
theorem impl_ReadVar_ev (s : ByteArray) (hs : s.size ≤ 140737488351232) (at_ : Int) : Ev (fun k => impl_ReadVar.f k s at_) (pReadVar s at_) := by
  simp only [impl_ReadVar.f]
  refine Ev.bind (impl_within_ev _ _ _) ?_
  by_cases h : 0 ≤ at_ ∧ at_ ≤ (s.size : Int)
  · simp only [h, and_self, decide_true, if_true]
    rw [pReadVar_in h]
    have hh := impl_ReadVar_i0 s hs at_ h.1 h.2 0 (by decide) (by decide)
    simpa only [Int.add_zero] using hh
  · simp only [h, decide_false, Bool.false_eq_true, if_false]
    rw [pReadVar_out h]
    exact Ev.now _

theorem impl_scan_number_ev (s : ByteArray) (hs : s.size ≤ 140737488351232) (a : Int) (b : Bool) : Ev (fun k => impl_scan_number.f k s a b) ((curVar s a b).1, s, (curVar s a b).2.1, (curVar s a b).2.2) := by
  simp only [impl_scan_number.f]
  refine Ev.bind (impl_ReadVar_ev s hs a) ?_
  unfold curVar
  cases b with
  | true => simp only [if_true]; exact Ev.now _
  | false =>
    by_cases h : (pReadVar s a).2.2 = true
    · simp only [Bool.false_eq_true, if_false, h, if_true]; exact Ev.now _
    · simp only [Bool.false_eq_true, if_false, h]; exact Ev.now _
theorem impl_scan_done_ev (s : ByteArray) (a : Int) (b : Bool) : Ev (fun _ => impl_scan_done.f s a b) (!b && (a == (s.size : Int)), s, a, b) := by
  apply ev_const
  cases b <;> simp [impl_scan_done.f]

theorem impl_ReadShort_ev (s : ByteArray) (hs : s.size ≤ 140737488351232) (at_ : Int) : Ev (fun k => impl_ReadShort.f k s at_) (pReadShort s at_) := by
  simp only [impl_ReadShort.f]
  refine Ev.bind (impl_ReadVar_ev s hs at_) ?_
  cases ho : (pReadVar s at_).2.2 with
  | false =>
    rw [pReadShort_no (by rw [ho]; simp)]
    simp only [Bool.false_eq_true, if_false]
    exact Ev.now _
  | true =>
    have hk := pReadVar_ok s at_ ho
    have e1 : wrap64 ((s.size : Int) - (pReadVar s at_).2.1) = s.size - (pReadVar s at_).2.1 := w64 (by omega) (by omega)
    have e2 : wrap64 ((pReadVar s at_).2.1 + (pReadVar s at_).1) = (pReadVar s at_).2.1 + (pReadVar s at_).1 := w64 (by omega) (by omega)
    simp only [if_true, e1, e2]
    by_cases c1 : (pReadVar s at_).1 > 20000
    · rw [pReadShort_no (by omega)]
      simp only [c1, if_true]
      exact Ev.now _
    · by_cases c2 : (pReadVar s at_).1 > s.size - (pReadVar s at_).2.1
      · rw [pReadShort_no (by omega)]
        simp only [c1, c2, if_true, if_false]
        exact Ev.now _
      · have k1 : 0 ≤ (pReadVar s at_).2.1 := by omega
        have k2 : (pReadVar s at_).2.1 ≤ (pReadVar s at_).2.1 + (pReadVar s at_).1 := by omega
        have k3 : (pReadVar s at_).2.1 + (pReadVar s at_).1 ≤ (s.size : Int) := by omega
        rw [pReadShort_yes ⟨ho, by omega, by omega⟩]
        simp only [c1, c2, k1, k2, k3, if_true, if_false]
        exact Ev.now _

theorem impl_SumMore_l1 (s : ByteArray) (i : Int) (h0 : 0 ≤ i) (h1 : i < s.size) (hs : s.size ≤ 140737488351232) (r : Int) : ∀ (m : Nat) (j x : Int), 0 ≤ j → j + m = 8 →
    Ev (fun k => impl_SumMore.l0 k (crcK m x) s (i + 1)) r → Ev (fun k => impl_SumMore.l1 k x s i j) r := by
  intro m
  induction m with
  | zero =>
    intro j x hj hm h
    apply ev_succ
    have c : ¬ j < 8 := by omega
    have e : wrap64 (i + 1) = i + 1 := w64 (by omega) (by omega)
    simp only [impl_SumMore.l1, c, if_false, e]
    exact h
  | succ m ih =>
    intro j x hj hm h
    apply ev_succ
    have c : j < 8 := by omega
    have e : wrap64 (j + 1) = j + 1 := w64 (by omega) (by omega)
    have hh := ih (j + 1) (crc1 x) (by omega) (by omega) h
    by_cases o : Int.tmod x 2 = 1
    · simp only [crc1, o, if_true] at hh
      simp only [impl_SumMore.l1, c, o, if_true, e]
      exact hh
    · simp only [crc1, o, if_false] at hh
      simp only [impl_SumMore.l1, c, o, if_true, if_false, e]
      exact hh
theorem impl_SumMore_l0 (s : ByteArray) (hs : s.size ≤ 140737488351232) : ∀ (d : Nat) (i : Int) (x : Int), 0 ≤ i → i + d = s.size →
    Ev (fun k => impl_SumMore.l0 k x s i) (crcL x ((bytesOf s).drop i.toNat)) := by
  intro d
  induction d with
  | zero =>
    intro i x h0 h
    apply ev_succ
    have c : ¬ i < (s.size : Int) := by omega
    simp only [impl_SumMore.l0, c, if_false]
    apply ev_some
    rw [List.drop_of_length_le (by rw [bytes_len]; omega)]; rfl
  | succ d ih =>
    intro i x h0 h
    apply ev_succ
    have c : i < (s.size : Int) := by omega
    simp only [impl_SumMore.l0, c, h0, if_true]
    have hh := ih (i + 1) (crcB x (bt s i)) (by omega) (by omega)
    rw [drop_bt s i h0 c]
    exact impl_SumMore_l1 s i h0 c hs _ 8 0 _ (by omega) (by omega) hh
theorem impl_SumMore_ev (x : Int) (s : ByteArray) (hs : s.size ≤ 140737488351232) : Ev (fun k => impl_SumMore.f k x s) (crcL x (bytesOf s)) := by
  simp only [impl_SumMore.f]
  exact impl_SumMore_l0 s hs s.size 0 x (by omega) (by omega)

theorem impl_SumOf_ev (s : ByteArray) (hs : s.size ≤ 140737488351232) : Ev (fun k => impl_SumOf.f k s) (sumN s) := by
  simp only [impl_SumOf.f]
  exact Ev.bind (impl_SumMore_ev _ s hs) (Ev.now _)

theorem impl_highFirst_ev (x : Int) (h0 : 0 ≤ x) (h1 : x < 4294967296) : Ev (fun k => impl_highFirst.f k x 4) (strOfNums (four x)) := by
  have a1 : Go.bits .and .i64 x 255 = x % 256 := bits_and255 x h0 (by omega)
  have a2 : Go.bits .and .i64 (x / 256) 255 = x / 256 % 256 := bits_and255 _ (by omega) (by omega)
  have a3 : Go.bits .and .i64 (x / 256 / 256) 255 = x / 256 / 256 % 256 := bits_and255 _ (by omega) (by omega)
  have a4 : Go.bits .and .i64 (x / 256 / 256 / 256) 255 = x / 256 / 256 / 256 % 256 := bits_and255 _ (by omega) (by omega)
  have w1 : wrap64 (4 - 1) = 3 := wlit (by decide) (by decide) (by decide)
  have w2 : wrap64 (3 - 1) = 2 := wlit (by decide) (by decide) (by decide)
  have w3 : wrap64 (2 - 1) = 1 := wlit (by decide) (by decide) (by decide)
  have w4 : wrap64 (1 - 1) = 0 := wlit (by decide) (by decide) (by decide)
  have w5 : wrap64 (0 - 1) = -1 := wlit (by decide) (by decide) (by decide)
  simp only [impl_highFirst.f, show (0 : Int) ≤ 4 by decide, show (4 : Int).toNat ≤ 281474976710656 by decide, if_true, w1]
  apply ev_succ
  simp only [impl_highFirst.l0, show (3 : Int) ≥ 0 by decide, show (0 : Int) ≤ 3 by decide, show (3 : Int) < ((List.replicate (4 : Int).toNat (0 : Int)).length : Int) by decide, if_true, w2, a1]
  apply ev_succ
  simp only [impl_highFirst.l0, show (2 : Int) ≥ 0 by decide, show (0 : Int) ≤ 2 by decide, List.length_set, show (2 : Int) < ((List.replicate (4 : Int).toNat (0 : Int)).length : Int) by decide, if_true, w3, a2]
  apply ev_succ
  simp only [impl_highFirst.l0, show (1 : Int) ≥ 0 by decide, show (0 : Int) ≤ 1 by decide, List.length_set, show (1 : Int) < ((List.replicate (4 : Int).toNat (0 : Int)).length : Int) by decide, if_true, w4, a3]
  apply ev_succ
  simp only [impl_highFirst.l0, show (0 : Int) ≥ 0 by decide, show (0 : Int) ≤ 0 by decide, List.length_set, show (0 : Int) < ((List.replicate (4 : Int).toNat (0 : Int)).length : Int) by decide, if_true, w5, a4]
  apply ev_succ
  simp only [impl_highFirst.l0, show ¬ (-1 : Int) ≥ 0 by decide, if_false]
  apply ev_some
  show strOfNums [x / 256 / 256 / 256 % 256 % 256, x / 256 / 256 % 256 % 256, x / 256 % 256 % 256, x % 256 % 256] = strOfNums (four x)
  unfold four
  congr 1
  simp only [List.cons.injEq, and_true]
  omega
theorem impl_Sealed_ev (s : ByteArray) (hs : s.size ≤ 140737488351232) : Ev (fun k => impl_Sealed.f k s) (pSealed s) := by
  simp only [impl_Sealed.f]
  by_cases h : (s.size : Int) > 20000
  · simp only [h, if_true]
    rw [pSealed_no (by omega)]
    exact Ev.now _
  · simp only [h, if_false]
    refine Ev.bind (impl_SumOf_ev s hs) ?_
    have hr := sumN_range s
    have e : wrap64 (sumN s) = sumN s := w64 (by omega) (by omega)
    simp only [e]
    refine Ev.bind (impl_highFirst_ev _ hr.1 hr.2) ?_
    have c : s.size + (strOfNums (four (sumN s))).size ≤ 9223372036854775807 := by rw [str_len]; simp [four]; omega
    simp only [c, if_true]
    rw [pSealed_yes (by omega)]
    exact Ev.now _

theorem impl_Unsealed_ev (t : ByteArray) (ht : t.size ≤ 140737488351232) : Ev (fun k => impl_Unsealed.f k t) (pUnsealed t) := by
  simp only [impl_Unsealed.f]
  by_cases h : t.size < 4
  · have c : wrap64 ((t.size : Int) - 4) < 0 := by rw [w64 (by omega) (by omega)]; omega
    simp only [c, if_true]
    rw [pUnsealed_no (by omega)]
    exact Ev.now _
  · have e : wrap64 ((t.size : Int) - 4) = ((t.size - 4 : Nat) : Int) := by rw [w64 (by omega) (by omega)]; omega
    have c1 : ¬ ((t.size - 4 : Nat) : Int) < 0 := by omega
    have c2 : 0 ≤ ((t.size - 4 : Nat) : Int) := by omega
    have c3 : ((t.size - 4 : Nat) : Int) ≤ (t.size : Int) := by omega
    simp only [e, c1, c2, c3, if_true, if_false, Int.toNat_natCast]
    have hz : (t.extract 0 (t.size - 4)).size = t.size - 4 := by rw [size_ext]; omega
    refine Ev.bind (impl_Sealed_ev _ (by omega)) ?_
    by_cases h2 : t.size ≤ 20004
    · rw [pSealed_yes (by omega)]
      simp only [if_true, toList_iff]
      by_cases h3 : sealB (t.extract 0 (t.size - 4)) = t
      · simp only [h3, if_true]
        rw [pUnsealed_yes ⟨by omega, h2, h3.symm⟩]
        exact Ev.now _
      · simp only [h3, if_false]
        rw [pUnsealed_no (fun h => h3 h.2.2.symm)]
        exact Ev.now _
    · rw [pSealed_no (by omega)]
      simp only [Bool.false_eq_true, if_false]
      rw [pUnsealed_no (by omega)]
      exact Ev.now _

theorem impl_isNode_ev (x : Int) : Ev (fun _ => impl_isNode.f x) (decide (1 ≤ x ∧ x ≤ 4)) := by
  simp only [impl_isNode.f]
  exact Ev.bind (impl_within_ev _ _ _) (Ev.now _)
theorem impl_nodesOk_l0 (l : List Int) (hl : l.length ≤ 35184372088832) : ∀ (d : Nat) (i : Int), 0 ≤ i → i + d = l.length →
    Ev (fun k => impl_nodesOk.l0 k l l (l.length : Int) i) (rise 1 4 (prev l i) (l.drop i.toNat)) := by
  intro d
  induction d with
  | zero =>
    intro i h0 h
    apply ev_succ
    have c : ¬ i < (l.length : Int) := by omega
    simp only [impl_nodesOk.l0, c, if_false]
    apply ev_some
    rw [List.drop_of_length_le (by omega)]; simp [rise]
  | succ d ih =>
    intro i h0 h
    apply ev_succ
    have c : i < (l.length : Int) := by omega
    have e5 : wrap64 (i + 1) = i + 1 := w64 (by omega) (by omega)
    have e6 : wrap64 (i - 1) = i - 1 := w64 (by omega) (by omega)
    simp only [impl_nodesOk.l0, c, h0, if_true, e5, e6]
    refine Ev.bind (impl_isNode_ev _) ?_
    have hh := ih (i + 1) (by omega) (by omega)
    have hp : prev l (i + 1) = some (rd l i) := by rw [prev, if_neg (by omega)]; congr 2; omega
    rw [hp] at hh
    rw [drop_rd l i h0 c]
    by_cases hb : 1 ≤ rd l i ∧ rd l i ≤ 4
    · simp only [hb, and_self, decide_true, if_true]
      by_cases hi : i > 0
      · have k1 : 0 ≤ i - 1 := by omega
        have k2 : i - 1 < (l.length : Int) := by omega
        simp only [hi, k1, k2, if_true]
        rw [prev, if_neg (by omega)]
        by_cases hq : rd l (i - 1) ≥ rd l i
        · simp only [hq, if_true]
          apply ev_some
          simp [rise, show ¬ rd l (i - 1) < rd l i by omega]
        · simp only [hq, if_false]
          simpa [rise, hb, show rd l (i - 1) < rd l i by omega] using hh
      · simp only [hi, if_false]
        rw [prev, if_pos (by omega)]
        simpa [rise, hb] using hh
    · simp only [hb, decide_false, Bool.false_eq_true, if_false]
      apply ev_some
      cases prev l i <;> simp [rise, hb]
theorem impl_nodesOk_ev (l : List Int) (hl : l.length ≤ 35184372088832) : Ev (fun k => impl_nodesOk.f k l) (rise 1 4 none l) := by
  simp only [impl_nodesOk.f]
  have := impl_nodesOk_l0 l hl l.length 0 (by omega) (by omega)
  simpa [prev] using this
theorem impl_ConfOk_ev (l : List Int) (hl : l.length ≤ 35184372088832) : Ev (fun k => impl_ConfOk.f k l) (pConfOk l) := by
  simp only [impl_ConfOk.f]
  by_cases h : (l.length : Int) > 0
  · simp only [h, if_true]
    rw [pConfOk, decide_eq_true (by omega), Bool.true_and]
    exact Ev.bind (impl_nodesOk_ev l hl) (Ev.now _)
  · simp only [h, if_false]
    rw [pConfOk, decide_eq_false (by omega), Bool.false_and]
    exact Ev.now _

theorem impl_ReadConf_ev (s : ByteArray) (hs : s.size ≤ 1048576) : Ev (fun k => impl_ReadConf.f k s) (pReadConf s) := by
  simp only [impl_ReadConf.f]
  have key := loop_up (fun k (x : List Int) i => impl_ReadConf.l0 k s x i) (s.size : Int) (pReadConf s) (fun x i => x = (bytesOf s).take i.toNat)
    (fun x hx => by
      rw [List.take_of_length_le (by rw [bytes_len]; omega)] at hx
      subst hx
      have c : ¬ (s.size : Int) < (s.size : Int) := by omega
      simp only [impl_ReadConf.l0, c, if_false]
      refine Ev.bind (impl_ConfOk_ev _ (by rw [bytes_len]; omega)) ?_
      by_cases h : pConfOk (bytesOf s) = true
      · simp only [h, if_true]
        rw [pReadConf_yes h]
        exact Ev.now _
      · simp only [h, if_false]
        rw [pReadConf_no h]
        exact Ev.now _)
    (fun x i h0 h1 hx ih => by
      have hxl : x.length ≤ s.size := by rw [hx, List.length_take, bytes_len]; omega
      have c3 : x.length < 17592186044416 := by omega
      have br := bt_range s i
      have e1 : wrap64 (bt s i) = bt s i := w64 (by omega) (by omega)
      have e2 : wrap64 (i + 1) = i + 1 := w64 (by omega) (by omega)
      simp only [impl_ReadConf.l0, h1, h0, c3, if_true, e1, e2]
      refine ih _ ?_
      rw [take_snoc_rd _ i h0 (by rw [bytes_len]; exact h1), hx, bt_rd]
      rfl)
  exact key s.size 0 [] (by omega) (by omega) (by simp)

theorem impl_isIndex_ev (x : Int) : Ev (fun _ => impl_isIndex.f x) (decide (0 ≤ x ∧ x ≤ 1000000)) := by
  simp only [impl_isIndex.f]
  exact Ev.bind (impl_within_ev _ _ _) (Ev.now _)

theorem impl_isTerm_ev (x : Int) : Ev (fun _ => impl_isTerm.f x) (decide (0 ≤ x ∧ x ≤ 100000)) := by
  simp only [impl_isTerm.f]
  exact Ev.bind (impl_within_ev _ _ _) (Ev.now _)

theorem impl_scan_short_ev (s : ByteArray) (hs : s.size ≤ 140737488351232) (a : Int) (b : Bool) : Ev (fun k => impl_scan_short.f k s a b) ((curShI s a b).1, s, (curShI s a b).2.1, (curShI s a b).2.2) := by
  simp only [impl_scan_short.f]
  refine Ev.bind (impl_ReadShort_ev s hs a) ?_
  unfold curShI
  cases b with
  | true => simp only [if_true]; exact Ev.now _
  | false =>
    by_cases h : (pReadShort s a).2.2 = true
    · simp only [Bool.false_eq_true, if_false, h, if_true]; exact Ev.now _
    · simp only [Bool.false_eq_true, if_false, h]; exact Ev.now _
theorem pUnsealed_size (t : ByteArray) : (pUnsealed t).1.size ≤ t.size := by
  unfold pUnsealed
  split
  · rw [size_ext]; omega
  · exact Nat.zero_le _
theorem impl_ReadSnap_ev (t : ByteArray) (ht : t.size ≤ 1048576) : Ev (fun k => impl_ReadSnap.f k t) (snapI t) := by
  simp only [impl_ReadSnap.f]
  unfold snapI
  simp only
  refine Ev.bind (impl_Unsealed_ev t (by omega)) ?_
  have hsz := pUnsealed_size t
  obtain ⟨s, ok, hu⟩ : ∃ s ok, pUnsealed t = (s, ok) := ⟨_, _, rfl⟩
  rw [hu] at hsz ⊢
  simp only at hsz ⊢
  have hs : s.size ≤ 140737488351232 := by omega
  refine Ev.bind (impl_scan_number_ev s hs 0 (!ok)) ?_
  obtain ⟨x1, a1, b1, e1⟩ : ∃ c a b, curVar s 0 (!ok) = (c, a, b) := ⟨_, _, _, rfl⟩
  rw [e1]
  simp only
  refine Ev.bind (impl_scan_number_ev s hs a1 b1) ?_
  obtain ⟨x2, a2, b2, e2⟩ : ∃ c a b, curVar s a1 b1 = (c, a, b) := ⟨_, _, _, rfl⟩
  rw [e2]
  simp only
  refine Ev.bind (impl_scan_short_ev s hs a2 b2) ?_
  have z3 := curShI_size s a2 b2
  obtain ⟨x3, a3, b3, e3⟩ : ∃ c a b, curShI s a2 b2 = (c, a, b) := ⟨_, _, _, rfl⟩
  rw [e3] at z3 ⊢
  simp only at z3 ⊢
  refine Ev.bind (impl_scan_short_ev s hs a3 b3) ?_
  obtain ⟨x4, a4, b4, e4⟩ : ∃ c a b, curShI s a3 b3 = (c, a, b) := ⟨_, _, _, rfl⟩
  rw [e4]
  simp only
  refine Ev.bind (impl_ReadConf_ev x3 (by omega)) ?_
  refine Ev.bind (impl_scan_done_ev s a4 b4) ?_
  by_cases h1 : (!b4 && (a4 == (s.size : Int))) = true
  · by_cases h2 : (pReadConf x3).2 = true
    · simp only [h1, h2, if_true, true_and]
      refine Ev.bind (impl_isIndex_ev x1) ?_
      by_cases h3 : 0 ≤ x1 ∧ x1 ≤ 1000000
      · simp only [h3, and_self, decide_true, if_true, true_and]
        refine Ev.bind (impl_isTerm_ev x2) ?_
        by_cases h4 : 0 ≤ x2 ∧ x2 ≤ 100000
        · simp only [h4, and_self, decide_true, if_true, true_and]
          by_cases h5 : (t.size : Int) > 20000
          · simp only [h5, if_true, not_true, if_false]; exact Ev.now _
          · simp only [h5, if_false, not_false_eq_true, if_true]; exact Ev.now _
        · simp only [h4, decide_false, Bool.false_eq_true, if_false, false_and]; exact Ev.now _
      · simp only [h3, decide_false, Bool.false_eq_true, if_false, false_and]; exact Ev.now _
    · simp only [h1, h2, if_true, if_false, false_and, and_false]; exact Ev.now _
  · simp only [h1, if_false, false_and]; exact Ev.now _

theorem spec_l01In_ev (a b c : Int) : Ev (fun _ => spec_l01In.f a b c) (decide (b ≤ a ∧ a ≤ c)) := by
  apply ev_const
  unfold spec_l01In.f
  by_cases h : a ≥ b
  · rw [if_pos h]; simp [show b ≤ a from h]
  · rw [if_neg h]; simp [show ¬ b ≤ a from h]

theorem spec_l01Var_l0 (n : Nat) : ∀ xs : List Int, xs.length + n < 140737488355328 → Ev (fun k => spec_l01Var.l0 k (n : Int) xs) (strOfNums (xs ++ varN n)) := by
  induction n using Nat.strongRecOn with
  | ind n ih =>
    intro xs h
    apply ev_succ
    have c2 : xs.length < 140737488355328 := by omega
    by_cases hn : n ≤ 127
    · have c1 : ¬ (n : Int) > 127 := by omega
      simp only [spec_l01Var.l0, c1, c2, if_true, if_false]
      apply ev_some
      rw [varN_small hn, show (n : Int) % 256 = n by omega]
    · have c1 : (n : Int) > 127 := by omega
      simp only [spec_l01Var.l0, c1, c2, if_true, var_div n (by omega), var_mod n]
      have := ih (n / 128) (by omega) (xs ++ [((n % 128 + 128 : Nat) : Int)]) (by simp; omega)
      rw [varN_big hn]
      simpa using this
theorem spec_l01Var_ev (n : Nat) (h : n < 140737488355328) : Ev (fun k => spec_l01Var.f k (n : Int)) (varB n) := by
  simp only [spec_l01Var.f]
  have := spec_l01Var_l0 n [] (by simpa using h)
  simpa [varB] using this

theorem spec_ReadVar_i5 (s : ByteArray) (hs : s.size ≤ 140737488351232) (at_ : Int) (h0 : 0 ≤ at_) (h1 : at_ ≤ s.size) (n sc : Int) (l : List Int) : Ev (fun k => spec_ReadVar.l0 k s at_ n sc (at_ + 5)) (rvOut (at_ + 5) (rvF 0 sc n false l)) := by
  apply ev_succ
  have e1 : wrap64 (at_ + 5) = at_ + 5 := w64 (by omega) (by omega)
  have e2 : decide (at_ + 5 < at_ + 5) = false := decide_eq_false (by omega)
  simp only [spec_ReadVar.l0, e1, e2, ite_self]
  apply ev_succ
  simp only [spec_ReadVar.j1, Bool.false_eq_true, if_false]
  exact Ev.now _
theorem spec_ReadVar_i4 (s : ByteArray) (hs : s.size ≤ 140737488351232) (at_ : Int) (h0 : 0 ≤ at_) (h1 : at_ ≤ s.size) (ds : List Int) (hl : ds.length = 4) (hd : ∀ d ∈ ds, 128 ≤ d ∧ d ≤ 255) (hv : valL ds < 268435456) (hp : ds = ((bytesOf s).drop at_.toNat).take 4) :
    Ev (fun k => spec_ReadVar.l0 k s at_ (valL ds : Int) 268435456 (at_ + 4)) (rvOut (at_ + 4) (rvF 1 268435456 (valL ds : Int) false ((bytesOf s).drop (at_ + 4).toNat))) := by
  apply ev_succ
  have e1 : wrap64 (at_ + 5) = at_ + 5 := w64 (by omega) (by omega)
  have e2 : decide (at_ + 4 < at_ + 5) = true := decide_eq_true (by omega)
  by_cases c : at_ + 4 < (s.size : Int)
  · simp only [spec_ReadVar.l0, c, if_true, e1, e2]
    apply ev_succ
    rw [drop_bt s (at_ + 4) (by omega) c]
    have br := bt_range s (at_ + 4)
    have e0 : 0 ≤ at_ + 4 := by omega
    have e7 : (at_ + 4 + 1).toNat = (at_ + 5).toNat := by omega
    rw [e7]
    have k3 : at_ + 4 + 1 = at_ + 5 := by omega
    have k4 : (268435456 : Int) * 128 = 34359738368 := by decide
    simp only [spec_ReadVar.j1, c, if_true, e0, h0]
    have hp' : ds ++ [bt s (at_ + 4)] = ((bytesOf s).drop at_.toNat).take 5 := by
      have h3 : ((bytesOf s).drop at_.toNat)[4]? = some (bt s (at_ + 4)) := by
        rw [List.getElem?_drop, bt_rd, List.getD_eq_getElem?_getD, show (at_ + 4).toNat = at_.toNat + 4 by omega, List.getElem?_eq_getElem (by rw [bytes_len]; omega)]
        rfl
      rw [List.take_add_one, ← hp, h3]
      rfl
    have hvs := valL_snoc ds (bt s (at_ + 4))
    rw [hl] at hvs
    have hx : bytesOf (s.extract at_.toNat (at_ + 4 + 1).toNat) = ds ++ [bt s (at_ + 4)] := by
      rw [bytes_ext, hp', show (at_ + 4 + 1).toNat - at_.toNat = 5 by omega]
    have hnext := fun (_ _ : True) => spec_ReadVar_i5 s hs at_ h0 h1 (valL (ds ++ [bt s (at_ + 4)]) : Int) 34359738368 ((bytesOf s).drop (at_ + 5).toNat)
    have hcan := canon ds (bt s (at_ + 4)) hd
    have hext : ∀ X : ByteArray, X = s.extract at_.toNat (at_ + 4 + 1).toNat ↔ bytesOf X = ds ++ [bt s (at_ + 4)] := fun X => ⟨fun h => by rw [h, hx], fun h => bytes_inj (by rw [h, hx])⟩
    generalize bt s (at_ + 4) = b at br hnext hvs hcan hext hp' ⊢
    have hval : ((valL (ds ++ [b]) : Nat) : Int) = (valL ds : Int) + b % 128 * 268435456 := by
      rw [hvs]; omega
    have hv' : valL (ds ++ [b]) < 34359738368 := by clear hnext hext hcan hp' hd hp; omega
    have e3 : wrap64 b = b := w64 (by omega) (by omega)
    have e4 : Int.tmod b 128 = b % 128 := Int.tmod_eq_emod_of_nonneg (by omega)
    have e5 : wrap64 (b % 128 * 268435456) = b % 128 * 268435456 := w64 (by omega) (by omega)
    have e6 : wrap64 ((valL (ds ++ [b]) : Nat) : Int) = ((valL (ds ++ [b]) : Nat) : Int) := w64 (by omega) (by omega)
    have e8 : wrap64 (at_ + 4 + 1) = at_ + 4 + 1 := w64 (by omega) (by omega)
    have e9 : wrap64 (268435456 * 128) = 34359738368 := wlit (by decide) (by decide) (by decide)
    have k1 : at_ ≤ at_ + 4 + 1 := by omega
    have k2 : at_ + 4 + 1 ≤ (s.size : Int) := by omega
    simp only [if_true, e3, e4, e5, e6, e8, e9, k1, k2, ← hval]
    by_cases hb : b < 128
    · have hb' : ¬ b > 127 := not_big hb
      by_cases hg : ((valL (ds ++ [b]) : Nat) : Int) > 1000000000
      · have hbad : (valL ds : Int) + b % 128 * 268435456 > 1000000000 := by rw [← hval]; exact hg
        rw [rvF_stop hb' (Or.inr hbad)]
        simp only [hb, hg, if_true]
        exact Ev.now _
      · simp only [hb, hg, if_true, if_false]
        refine Ev.bind (spec_l01Var_ev (valL (ds ++ [b])) (lt_big hg)) ?_
        simp only [toList_iff, hext, varB, bytes_str (varN_isB _), hcan br.1 (lt_128 hb)]
        have hgood : ¬ (valL ds : Int) + b % 128 * 268435456 > 1000000000 := by rw [← hval]; exact hg
        by_cases hz : ds = [] ∨ b ≠ 0
        · have hq : ¬ (false = false ∧ b = 0) := by rcases hz with rfl | hz; exact absurd hl (by simp); exact fun h => hz h.2
          rw [rvF_take hb' hq hgood, ← hval]
          simp only [if_pos hz]
          exact Ev.now _
        · rw [rvF_stop hb' (Or.inl ⟨rfl, Classical.byContradiction fun h => hz (Or.inr h)⟩)]
          simp only [if_neg hz]
          exact Ev.now _
    · have hb' : b > 127 := is_big hb
      rw [rvF_more hb', rvOut_map, ← hval]
      simp only [hb, if_false]
      have hh := hnext trivial trivial
      simpa only [k3, k4] using hh
  · simp only [spec_ReadVar.l0, c, if_false]
    apply ev_succ
    simp only [spec_ReadVar.j1, Bool.false_eq_true, if_false]
    rw [List.drop_of_length_le (by rw [bytes_len]; omega)]
    exact Ev.now _
theorem spec_ReadVar_i3 (s : ByteArray) (hs : s.size ≤ 140737488351232) (at_ : Int) (h0 : 0 ≤ at_) (h1 : at_ ≤ s.size) (ds : List Int) (hl : ds.length = 3) (hd : ∀ d ∈ ds, 128 ≤ d ∧ d ≤ 255) (hv : valL ds < 2097152) (hp : ds = ((bytesOf s).drop at_.toNat).take 3) :
    Ev (fun k => spec_ReadVar.l0 k s at_ (valL ds : Int) 2097152 (at_ + 3)) (rvOut (at_ + 3) (rvF 2 2097152 (valL ds : Int) false ((bytesOf s).drop (at_ + 3).toNat))) := by
  apply ev_succ
  have e1 : wrap64 (at_ + 5) = at_ + 5 := w64 (by omega) (by omega)
  have e2 : decide (at_ + 3 < at_ + 5) = true := decide_eq_true (by omega)
  by_cases c : at_ + 3 < (s.size : Int)
  · simp only [spec_ReadVar.l0, c, if_true, e1, e2]
    apply ev_succ
    rw [drop_bt s (at_ + 3) (by omega) c]
    have br := bt_range s (at_ + 3)
    have e0 : 0 ≤ at_ + 3 := by omega
    have e7 : (at_ + 3 + 1).toNat = (at_ + 4).toNat := by omega
    rw [e7]
    have k3 : at_ + 3 + 1 = at_ + 4 := by omega
    have k4 : (2097152 : Int) * 128 = 268435456 := by decide
    simp only [spec_ReadVar.j1, c, if_true, e0, h0]
    have hp' : ds ++ [bt s (at_ + 3)] = ((bytesOf s).drop at_.toNat).take 4 := by
      have h3 : ((bytesOf s).drop at_.toNat)[3]? = some (bt s (at_ + 3)) := by
        rw [List.getElem?_drop, bt_rd, List.getD_eq_getElem?_getD, show (at_ + 3).toNat = at_.toNat + 3 by omega, List.getElem?_eq_getElem (by rw [bytes_len]; omega)]
        rfl
      rw [List.take_add_one, ← hp, h3]
      rfl
    have hvs := valL_snoc ds (bt s (at_ + 3))
    rw [hl] at hvs
    have hx : bytesOf (s.extract at_.toNat (at_ + 3 + 1).toNat) = ds ++ [bt s (at_ + 3)] := by
      rw [bytes_ext, hp', show (at_ + 3 + 1).toNat - at_.toNat = 4 by omega]
    have hnext := fun hv' hd' => spec_ReadVar_i4 s hs at_ h0 h1 (ds ++ [bt s (at_ + 3)]) (by simp [hl]) hd' hv' hp'
    have hcan := canon ds (bt s (at_ + 3)) hd
    have hext : ∀ X : ByteArray, X = s.extract at_.toNat (at_ + 3 + 1).toNat ↔ bytesOf X = ds ++ [bt s (at_ + 3)] := fun X => ⟨fun h => by rw [h, hx], fun h => bytes_inj (by rw [h, hx])⟩
    generalize bt s (at_ + 3) = b at br hnext hvs hcan hext hp' ⊢
    have hval : ((valL (ds ++ [b]) : Nat) : Int) = (valL ds : Int) + b % 128 * 2097152 := by
      rw [hvs]; omega
    have hv' : valL (ds ++ [b]) < 268435456 := by clear hnext hext hcan hp' hd hp; omega
    have e3 : wrap64 b = b := w64 (by omega) (by omega)
    have e4 : Int.tmod b 128 = b % 128 := Int.tmod_eq_emod_of_nonneg (by omega)
    have e5 : wrap64 (b % 128 * 2097152) = b % 128 * 2097152 := w64 (by omega) (by omega)
    have e6 : wrap64 ((valL (ds ++ [b]) : Nat) : Int) = ((valL (ds ++ [b]) : Nat) : Int) := w64 (by omega) (by omega)
    have e8 : wrap64 (at_ + 3 + 1) = at_ + 3 + 1 := w64 (by omega) (by omega)
    have e9 : wrap64 (2097152 * 128) = 268435456 := wlit (by decide) (by decide) (by decide)
    have k1 : at_ ≤ at_ + 3 + 1 := by omega
    have k2 : at_ + 3 + 1 ≤ (s.size : Int) := by omega
    simp only [if_true, e3, e4, e5, e6, e8, e9, k1, k2, ← hval]
    by_cases hb : b < 128
    · have hb' : ¬ b > 127 := not_big hb
      by_cases hg : ((valL (ds ++ [b]) : Nat) : Int) > 1000000000
      · have hbad : (valL ds : Int) + b % 128 * 2097152 > 1000000000 := by rw [← hval]; exact hg
        rw [rvF_stop hb' (Or.inr hbad)]
        simp only [hb, hg, if_true]
        exact Ev.now _
      · simp only [hb, hg, if_true, if_false]
        refine Ev.bind (spec_l01Var_ev (valL (ds ++ [b])) (lt_big hg)) ?_
        simp only [toList_iff, hext, varB, bytes_str (varN_isB _), hcan br.1 (lt_128 hb)]
        have hgood : ¬ (valL ds : Int) + b % 128 * 2097152 > 1000000000 := by rw [← hval]; exact hg
        by_cases hz : ds = [] ∨ b ≠ 0
        · have hq : ¬ (false = false ∧ b = 0) := by rcases hz with rfl | hz; exact absurd hl (by simp); exact fun h => hz h.2
          rw [rvF_take hb' hq hgood, ← hval]
          simp only [if_pos hz]
          exact Ev.now _
        · rw [rvF_stop hb' (Or.inl ⟨rfl, Classical.byContradiction fun h => hz (Or.inr h)⟩)]
          simp only [if_neg hz]
          exact Ev.now _
    · have hb' : b > 127 := is_big hb
      rw [rvF_more hb', rvOut_map, ← hval]
      simp only [hb, if_false]
      have hh := hnext hv' (big_app hd hb br.2)
      simpa only [k3, k4] using hh
  · simp only [spec_ReadVar.l0, c, if_false]
    apply ev_succ
    simp only [spec_ReadVar.j1, Bool.false_eq_true, if_false]
    rw [List.drop_of_length_le (by rw [bytes_len]; omega)]
    exact Ev.now _
theorem spec_ReadVar_i2 (s : ByteArray) (hs : s.size ≤ 140737488351232) (at_ : Int) (h0 : 0 ≤ at_) (h1 : at_ ≤ s.size) (ds : List Int) (hl : ds.length = 2) (hd : ∀ d ∈ ds, 128 ≤ d ∧ d ≤ 255) (hv : valL ds < 16384) (hp : ds = ((bytesOf s).drop at_.toNat).take 2) :
    Ev (fun k => spec_ReadVar.l0 k s at_ (valL ds : Int) 16384 (at_ + 2)) (rvOut (at_ + 2) (rvF 3 16384 (valL ds : Int) false ((bytesOf s).drop (at_ + 2).toNat))) := by
  apply ev_succ
  have e1 : wrap64 (at_ + 5) = at_ + 5 := w64 (by omega) (by omega)
  have e2 : decide (at_ + 2 < at_ + 5) = true := decide_eq_true (by omega)
  by_cases c : at_ + 2 < (s.size : Int)
  · simp only [spec_ReadVar.l0, c, if_true, e1, e2]
    apply ev_succ
    rw [drop_bt s (at_ + 2) (by omega) c]
    have br := bt_range s (at_ + 2)
    have e0 : 0 ≤ at_ + 2 := by omega
    have e7 : (at_ + 2 + 1).toNat = (at_ + 3).toNat := by omega
    rw [e7]
    have k3 : at_ + 2 + 1 = at_ + 3 := by omega
    have k4 : (16384 : Int) * 128 = 2097152 := by decide
    simp only [spec_ReadVar.j1, c, if_true, e0, h0]
    have hp' : ds ++ [bt s (at_ + 2)] = ((bytesOf s).drop at_.toNat).take 3 := by
      have h3 : ((bytesOf s).drop at_.toNat)[2]? = some (bt s (at_ + 2)) := by
        rw [List.getElem?_drop, bt_rd, List.getD_eq_getElem?_getD, show (at_ + 2).toNat = at_.toNat + 2 by omega, List.getElem?_eq_getElem (by rw [bytes_len]; omega)]
        rfl
      rw [List.take_add_one, ← hp, h3]
      rfl
    have hvs := valL_snoc ds (bt s (at_ + 2))
    rw [hl] at hvs
    have hx : bytesOf (s.extract at_.toNat (at_ + 2 + 1).toNat) = ds ++ [bt s (at_ + 2)] := by
      rw [bytes_ext, hp', show (at_ + 2 + 1).toNat - at_.toNat = 3 by omega]
    have hnext := fun hv' hd' => spec_ReadVar_i3 s hs at_ h0 h1 (ds ++ [bt s (at_ + 2)]) (by simp [hl]) hd' hv' hp'
    have hcan := canon ds (bt s (at_ + 2)) hd
    have hext : ∀ X : ByteArray, X = s.extract at_.toNat (at_ + 2 + 1).toNat ↔ bytesOf X = ds ++ [bt s (at_ + 2)] := fun X => ⟨fun h => by rw [h, hx], fun h => bytes_inj (by rw [h, hx])⟩
    generalize bt s (at_ + 2) = b at br hnext hvs hcan hext hp' ⊢
    have hval : ((valL (ds ++ [b]) : Nat) : Int) = (valL ds : Int) + b % 128 * 16384 := by
      rw [hvs]; omega
    have hv' : valL (ds ++ [b]) < 2097152 := by clear hnext hext hcan hp' hd hp; omega
    have e3 : wrap64 b = b := w64 (by omega) (by omega)
    have e4 : Int.tmod b 128 = b % 128 := Int.tmod_eq_emod_of_nonneg (by omega)
    have e5 : wrap64 (b % 128 * 16384) = b % 128 * 16384 := w64 (by omega) (by omega)
    have e6 : wrap64 ((valL (ds ++ [b]) : Nat) : Int) = ((valL (ds ++ [b]) : Nat) : Int) := w64 (by omega) (by omega)
    have e8 : wrap64 (at_ + 2 + 1) = at_ + 2 + 1 := w64 (by omega) (by omega)
    have e9 : wrap64 (16384 * 128) = 2097152 := wlit (by decide) (by decide) (by decide)
    have k1 : at_ ≤ at_ + 2 + 1 := by omega
    have k2 : at_ + 2 + 1 ≤ (s.size : Int) := by omega
    simp only [if_true, e3, e4, e5, e6, e8, e9, k1, k2, ← hval]
    by_cases hb : b < 128
    · have hb' : ¬ b > 127 := not_big hb
      by_cases hg : ((valL (ds ++ [b]) : Nat) : Int) > 1000000000
      · have hbad : (valL ds : Int) + b % 128 * 16384 > 1000000000 := by rw [← hval]; exact hg
        rw [rvF_stop hb' (Or.inr hbad)]
        simp only [hb, hg, if_true]
        exact Ev.now _
      · simp only [hb, hg, if_true, if_false]
        refine Ev.bind (spec_l01Var_ev (valL (ds ++ [b])) (lt_big hg)) ?_
        simp only [toList_iff, hext, varB, bytes_str (varN_isB _), hcan br.1 (lt_128 hb)]
        have hgood : ¬ (valL ds : Int) + b % 128 * 16384 > 1000000000 := by rw [← hval]; exact hg
        by_cases hz : ds = [] ∨ b ≠ 0
        · have hq : ¬ (false = false ∧ b = 0) := by rcases hz with rfl | hz; exact absurd hl (by simp); exact fun h => hz h.2
          rw [rvF_take hb' hq hgood, ← hval]
          simp only [if_pos hz]
          exact Ev.now _
        · rw [rvF_stop hb' (Or.inl ⟨rfl, Classical.byContradiction fun h => hz (Or.inr h)⟩)]
          simp only [if_neg hz]
          exact Ev.now _
    · have hb' : b > 127 := is_big hb
      rw [rvF_more hb', rvOut_map, ← hval]
      simp only [hb, if_false]
      have hh := hnext hv' (big_app hd hb br.2)
      simpa only [k3, k4] using hh
  · simp only [spec_ReadVar.l0, c, if_false]
    apply ev_succ
    simp only [spec_ReadVar.j1, Bool.false_eq_true, if_false]
    rw [List.drop_of_length_le (by rw [bytes_len]; omega)]
    exact Ev.now _
theorem spec_ReadVar_i1 (s : ByteArray) (hs : s.size ≤ 140737488351232) (at_ : Int) (h0 : 0 ≤ at_) (h1 : at_ ≤ s.size) (ds : List Int) (hl : ds.length = 1) (hd : ∀ d ∈ ds, 128 ≤ d ∧ d ≤ 255) (hv : valL ds < 128) (hp : ds = ((bytesOf s).drop at_.toNat).take 1) :
    Ev (fun k => spec_ReadVar.l0 k s at_ (valL ds : Int) 128 (at_ + 1)) (rvOut (at_ + 1) (rvF 4 128 (valL ds : Int) false ((bytesOf s).drop (at_ + 1).toNat))) := by
  apply ev_succ
  have e1 : wrap64 (at_ + 5) = at_ + 5 := w64 (by omega) (by omega)
  have e2 : decide (at_ + 1 < at_ + 5) = true := decide_eq_true (by omega)
  by_cases c : at_ + 1 < (s.size : Int)
  · simp only [spec_ReadVar.l0, c, if_true, e1, e2]
    apply ev_succ
    rw [drop_bt s (at_ + 1) (by omega) c]
    have br := bt_range s (at_ + 1)
    have e0 : 0 ≤ at_ + 1 := by omega
    have e7 : (at_ + 1 + 1).toNat = (at_ + 2).toNat := by omega
    rw [e7]
    have k3 : at_ + 1 + 1 = at_ + 2 := by omega
    have k4 : (128 : Int) * 128 = 16384 := by decide
    simp only [spec_ReadVar.j1, c, if_true, e0, h0]
    have hp' : ds ++ [bt s (at_ + 1)] = ((bytesOf s).drop at_.toNat).take 2 := by
      have h3 : ((bytesOf s).drop at_.toNat)[1]? = some (bt s (at_ + 1)) := by
        rw [List.getElem?_drop, bt_rd, List.getD_eq_getElem?_getD, show (at_ + 1).toNat = at_.toNat + 1 by omega, List.getElem?_eq_getElem (by rw [bytes_len]; omega)]
        rfl
      rw [List.take_add_one, ← hp, h3]
      rfl
    have hvs := valL_snoc ds (bt s (at_ + 1))
    rw [hl] at hvs
    have hx : bytesOf (s.extract at_.toNat (at_ + 1 + 1).toNat) = ds ++ [bt s (at_ + 1)] := by
      rw [bytes_ext, hp', show (at_ + 1 + 1).toNat - at_.toNat = 2 by omega]
    have hnext := fun hv' hd' => spec_ReadVar_i2 s hs at_ h0 h1 (ds ++ [bt s (at_ + 1)]) (by simp [hl]) hd' hv' hp'
    have hcan := canon ds (bt s (at_ + 1)) hd
    have hext : ∀ X : ByteArray, X = s.extract at_.toNat (at_ + 1 + 1).toNat ↔ bytesOf X = ds ++ [bt s (at_ + 1)] := fun X => ⟨fun h => by rw [h, hx], fun h => bytes_inj (by rw [h, hx])⟩
    generalize bt s (at_ + 1) = b at br hnext hvs hcan hext hp' ⊢
    have hval : ((valL (ds ++ [b]) : Nat) : Int) = (valL ds : Int) + b % 128 * 128 := by
      rw [hvs]; omega
    have hv' : valL (ds ++ [b]) < 16384 := by clear hnext hext hcan hp' hd hp; omega
    have e3 : wrap64 b = b := w64 (by omega) (by omega)
    have e4 : Int.tmod b 128 = b % 128 := Int.tmod_eq_emod_of_nonneg (by omega)
    have e5 : wrap64 (b % 128 * 128) = b % 128 * 128 := w64 (by omega) (by omega)
    have e6 : wrap64 ((valL (ds ++ [b]) : Nat) : Int) = ((valL (ds ++ [b]) : Nat) : Int) := w64 (by omega) (by omega)
    have e8 : wrap64 (at_ + 1 + 1) = at_ + 1 + 1 := w64 (by omega) (by omega)
    have e9 : wrap64 (128 * 128) = 16384 := wlit (by decide) (by decide) (by decide)
    have k1 : at_ ≤ at_ + 1 + 1 := by omega
    have k2 : at_ + 1 + 1 ≤ (s.size : Int) := by omega
    simp only [if_true, e3, e4, e5, e6, e8, e9, k1, k2, ← hval]
    by_cases hb : b < 128
    · have hb' : ¬ b > 127 := not_big hb
      by_cases hg : ((valL (ds ++ [b]) : Nat) : Int) > 1000000000
      · have hbad : (valL ds : Int) + b % 128 * 128 > 1000000000 := by rw [← hval]; exact hg
        rw [rvF_stop hb' (Or.inr hbad)]
        simp only [hb, hg, if_true]
        exact Ev.now _
      · simp only [hb, hg, if_true, if_false]
        refine Ev.bind (spec_l01Var_ev (valL (ds ++ [b])) (lt_big hg)) ?_
        simp only [toList_iff, hext, varB, bytes_str (varN_isB _), hcan br.1 (lt_128 hb)]
        have hgood : ¬ (valL ds : Int) + b % 128 * 128 > 1000000000 := by rw [← hval]; exact hg
        by_cases hz : ds = [] ∨ b ≠ 0
        · have hq : ¬ (false = false ∧ b = 0) := by rcases hz with rfl | hz; exact absurd hl (by simp); exact fun h => hz h.2
          rw [rvF_take hb' hq hgood, ← hval]
          simp only [if_pos hz]
          exact Ev.now _
        · rw [rvF_stop hb' (Or.inl ⟨rfl, Classical.byContradiction fun h => hz (Or.inr h)⟩)]
          simp only [if_neg hz]
          exact Ev.now _
    · have hb' : b > 127 := is_big hb
      rw [rvF_more hb', rvOut_map, ← hval]
      simp only [hb, if_false]
      have hh := hnext hv' (big_app hd hb br.2)
      simpa only [k3, k4] using hh
  · simp only [spec_ReadVar.l0, c, if_false]
    apply ev_succ
    simp only [spec_ReadVar.j1, Bool.false_eq_true, if_false]
    rw [List.drop_of_length_le (by rw [bytes_len]; omega)]
    exact Ev.now _
theorem spec_ReadVar_i0 (s : ByteArray) (hs : s.size ≤ 140737488351232) (at_ : Int) (h0 : 0 ≤ at_) (h1 : at_ ≤ s.size) (ds : List Int) (hl : ds.length = 0) (hd : ∀ d ∈ ds, 128 ≤ d ∧ d ≤ 255) (hv : valL ds < 1) (hp : ds = ((bytesOf s).drop at_.toNat).take 0) :
    Ev (fun k => spec_ReadVar.l0 k s at_ (valL ds : Int) 1 (at_ + 0)) (rvOut (at_ + 0) (rvF 5 1 (valL ds : Int) true ((bytesOf s).drop (at_ + 0).toNat))) := by
  apply ev_succ
  have e1 : wrap64 (at_ + 5) = at_ + 5 := w64 (by omega) (by omega)
  have e2 : decide (at_ + 0 < at_ + 5) = true := decide_eq_true (by omega)
  by_cases c : at_ + 0 < (s.size : Int)
  · simp only [spec_ReadVar.l0, c, if_true, e1, e2]
    apply ev_succ
    rw [drop_bt s (at_ + 0) (by omega) c]
    have br := bt_range s (at_ + 0)
    have e0 : 0 ≤ at_ + 0 := by omega
    have e7 : (at_ + 0 + 1).toNat = (at_ + 1).toNat := by omega
    rw [e7]
    have k3 : at_ + 0 + 1 = at_ + 1 := by omega
    have k4 : (1 : Int) * 128 = 128 := by decide
    simp only [spec_ReadVar.j1, c, if_true, e0, h0]
    have hp' : ds ++ [bt s (at_ + 0)] = ((bytesOf s).drop at_.toNat).take 1 := by
      have h3 : ((bytesOf s).drop at_.toNat)[0]? = some (bt s (at_ + 0)) := by
        rw [List.getElem?_drop, bt_rd, List.getD_eq_getElem?_getD, show (at_ + 0).toNat = at_.toNat + 0 by omega, List.getElem?_eq_getElem (by rw [bytes_len]; omega)]
        rfl
      rw [List.take_add_one, ← hp, h3]
      rfl
    have hvs := valL_snoc ds (bt s (at_ + 0))
    rw [hl] at hvs
    have hx : bytesOf (s.extract at_.toNat (at_ + 0 + 1).toNat) = ds ++ [bt s (at_ + 0)] := by
      rw [bytes_ext, hp', show (at_ + 0 + 1).toNat - at_.toNat = 1 by omega]
    have hnext := fun hv' hd' => spec_ReadVar_i1 s hs at_ h0 h1 (ds ++ [bt s (at_ + 0)]) (by simp [hl]) hd' hv' hp'
    have hcan := canon ds (bt s (at_ + 0)) hd
    have hext : ∀ X : ByteArray, X = s.extract at_.toNat (at_ + 0 + 1).toNat ↔ bytesOf X = ds ++ [bt s (at_ + 0)] := fun X => ⟨fun h => by rw [h, hx], fun h => bytes_inj (by rw [h, hx])⟩
    generalize bt s (at_ + 0) = b at br hnext hvs hcan hext hp' ⊢
    have hval : ((valL (ds ++ [b]) : Nat) : Int) = (valL ds : Int) + b % 128 * 1 := by
      rw [hvs]; omega
    have hv' : valL (ds ++ [b]) < 128 := by clear hnext hext hcan hp' hd hp; omega
    have e3 : wrap64 b = b := w64 (by omega) (by omega)
    have e4 : Int.tmod b 128 = b % 128 := Int.tmod_eq_emod_of_nonneg (by omega)
    have e5 : wrap64 (b % 128 * 1) = b % 128 * 1 := w64 (by omega) (by omega)
    have e6 : wrap64 ((valL (ds ++ [b]) : Nat) : Int) = ((valL (ds ++ [b]) : Nat) : Int) := w64 (by omega) (by omega)
    have e8 : wrap64 (at_ + 0 + 1) = at_ + 0 + 1 := w64 (by omega) (by omega)
    have e9 : wrap64 (1 * 128) = 128 := wlit (by decide) (by decide) (by decide)
    have k1 : at_ ≤ at_ + 0 + 1 := by omega
    have k2 : at_ + 0 + 1 ≤ (s.size : Int) := by omega
    simp only [if_true, e3, e4, e5, e6, e8, e9, k1, k2, ← hval]
    by_cases hb : b < 128
    · have hb' : ¬ b > 127 := not_big hb
      by_cases hg : ((valL (ds ++ [b]) : Nat) : Int) > 1000000000
      · have hbad : (valL ds : Int) + b % 128 * 1 > 1000000000 := by rw [← hval]; exact hg
        rw [rvF_stop hb' (Or.inr hbad)]
        simp only [hb, hg, if_true]
        exact Ev.now _
      · simp only [hb, hg, if_true, if_false]
        refine Ev.bind (spec_l01Var_ev (valL (ds ++ [b])) (lt_big hg)) ?_
        simp only [toList_iff, hext, varB, bytes_str (varN_isB _), hcan br.1 (lt_128 hb)]
        have hgood : ¬ (valL ds : Int) + b % 128 * 1 > 1000000000 := by rw [← hval]; exact hg
        by_cases hz : ds = [] ∨ b ≠ 0
        · have hq : ¬ (true = false ∧ b = 0) := by simp
          rw [rvF_take hb' hq hgood, ← hval]
          simp only [if_pos hz]
          exact Ev.now _
        · exact absurd (Or.inl (List.eq_nil_of_length_eq_zero hl)) hz

    · have hb' : b > 127 := is_big hb
      rw [rvF_more hb', rvOut_map, ← hval]
      simp only [hb, if_false]
      have hh := hnext hv' (big_app hd hb br.2)
      simpa only [k3, k4] using hh
  · simp only [spec_ReadVar.l0, c, if_false]
    apply ev_succ
    simp only [spec_ReadVar.j1, Bool.false_eq_true, if_false]
    rw [List.drop_of_length_le (by rw [bytes_len]; omega)]
    exact Ev.now _
theorem spec_ReadVar_ev (s : ByteArray) (hs : s.size ≤ 140737488351232) (at_ : Int) : Ev (fun k => spec_ReadVar.f k s at_) (pReadVar s at_) := by
  simp only [spec_ReadVar.f]
  refine Ev.bind (spec_l01In_ev _ _ _) ?_
  by_cases h : 0 ≤ at_ ∧ at_ ≤ (s.size : Int)
  · simp only [h, and_self, decide_true, if_true]
    rw [pReadVar_in h]
    have hh := spec_ReadVar_i0 s hs at_ h.1 h.2 [] rfl (by simp) (by decide) (by simp)
    simpa only [Int.add_zero, valL, Int.natCast_zero] using hh
  · simp only [h, decide_false, Bool.false_eq_true, if_false]
    rw [pReadVar_out h]
    exact Ev.now _

theorem spec_l05Var_ev (s : ByteArray) (hs : s.size ≤ 140737488351232) (a : Int) (b : Bool) : Ev (fun k => spec_l05Var.f k s a b) ((curVar s a b).1, s, (curVar s a b).2.1, (curVar s a b).2.2) := by
  simp only [spec_l05Var.f]
  refine Ev.bind (spec_ReadVar_ev s hs a) ?_
  unfold curVar
  cases b with
  | true => simp only [if_true]; exact Ev.now _
  | false =>
    by_cases h : (pReadVar s a).2.2 = true
    · simp only [Bool.false_eq_true, if_false, h, if_true]; exact Ev.now _
    · simp only [Bool.false_eq_true, if_false, h]; exact Ev.now _
theorem spec_l05Take_ev (s : ByteArray) (hs : s.size ≤ 140737488351232) (a : Int) (b : Bool) (n : Int) (ha : curOk s a) (hn : 0 ≤ n ∧ n ≤ 1000000000) : Ev (fun _ => spec_l05Take.f s a b n) ((curTake s a b n).1, s, (curTake s a b n).2.1, (curTake s a b n).2.2) := by
  unfold curOk at ha
  apply ev_const
  unfold curTake
  cases b with
  | true => simp only [spec_l05Take.f, if_true]
  | false =>
    have e0 : wrap64 ((s.size : Int) - a) = s.size - a := w64 (by omega) (by omega)
    by_cases h : n > (s.size : Int) - a
    · simp only [spec_l05Take.f, Bool.false_eq_true, if_false, e0, h, if_true]
    · have e1 : wrap64 (a + n) = a + n := w64 (by omega) (by omega)
      have e2 : wrap64 (a + n - n) = a := by rw [show a + n - n = a by omega]; exact w64 (by omega) (by omega)
      have k1 : a ≤ a + n := by omega
      have k2 : a + n ≤ (s.size : Int) := by omega
      simp only [spec_l05Take.f, Bool.false_eq_true, if_false, e0, h, e1, e2, ha.1, k1, k2, if_true]

theorem spec_SumMore_l1 (s : ByteArray) (i : Int) (h0 : 0 ≤ i) (h1 : i < s.size) (hs : s.size ≤ 140737488351232) (r : Int) : ∀ (m : Nat) (j x : Int), 0 ≤ j → j + m = 8 →
    Ev (fun k => spec_SumMore.l0 k (crcK m x) s (i + 1)) r → Ev (fun k => spec_SumMore.l1 k x s i j) r := by
  intro m
  induction m with
  | zero =>
    intro j x hj hm h
    apply ev_succ
    have c : ¬ j < 8 := by omega
    have e : wrap64 (i + 1) = i + 1 := w64 (by omega) (by omega)
    simp only [spec_SumMore.l1, c, if_false, e]
    exact h
  | succ m ih =>
    intro j x hj hm h
    apply ev_succ
    have c : j < 8 := by omega
    have e : wrap64 (j + 1) = j + 1 := w64 (by omega) (by omega)
    have hh := ih (j + 1) (crc1 x) (by omega) (by omega) h
    by_cases o : Int.tmod x 2 = 1
    · simp only [crc1, o, if_true] at hh
      simp only [spec_SumMore.l1, c, o, if_true, e]
      exact hh
    · simp only [crc1, o, if_false] at hh
      simp only [spec_SumMore.l1, c, o, if_true, if_false, e]
      exact hh
theorem spec_SumMore_l0 (s : ByteArray) (hs : s.size ≤ 140737488351232) : ∀ (d : Nat) (i : Int) (x : Int), 0 ≤ i → i + d = s.size →
    Ev (fun k => spec_SumMore.l0 k x s i) (crcL x ((bytesOf s).drop i.toNat)) := by
  intro d
  induction d with
  | zero =>
    intro i x h0 h
    apply ev_succ
    have c : ¬ i < (s.size : Int) := by omega
    simp only [spec_SumMore.l0, c, if_false]
    apply ev_some
    rw [List.drop_of_length_le (by rw [bytes_len]; omega)]; rfl
  | succ d ih =>
    intro i x h0 h
    apply ev_succ
    have c : i < (s.size : Int) := by omega
    simp only [spec_SumMore.l0, c, h0, if_true]
    have hh := ih (i + 1) (crcB x (bt s i)) (by omega) (by omega)
    rw [drop_bt s i h0 c]
    exact spec_SumMore_l1 s i h0 c hs _ 8 0 _ (by omega) (by omega) hh
theorem spec_SumMore_ev (x : Int) (s : ByteArray) (hs : s.size ≤ 140737488351232) : Ev (fun k => spec_SumMore.f k x s) (crcL x (bytesOf s)) := by
  simp only [spec_SumMore.f]
  exact spec_SumMore_l0 s hs s.size 0 x (by omega) (by omega)

theorem spec_SumOf_ev (s : ByteArray) (hs : s.size ≤ 140737488351232) : Ev (fun k => spec_SumOf.f k s) (sumN s) := by
  simp only [spec_SumOf.f]
  exact Ev.bind (spec_SumMore_ev _ s hs) (Ev.now _)

theorem spec_l02Four_ev (x : Int) : Ev (fun _ => spec_l02Four.f x) (strOfNums (four x)) := ev_const rfl

theorem spec_Unsealed_ev (t : ByteArray) (ht : t.size ≤ 140737488351232) : Ev (fun k => spec_Unsealed.f k t) (pUnsealed t) := by
  simp only [spec_Unsealed.f]
  by_cases h : t.size < 4
  · have c : wrap64 ((t.size : Int) - 4) < 0 := by rw [w64 (by omega) (by omega)]; omega
    simp only [c, if_true]
    rw [pUnsealed_no (by omega)]
    exact Ev.now _
  · have e : wrap64 ((t.size : Int) - 4) = ((t.size - 4 : Nat) : Int) := by rw [w64 (by omega) (by omega)]; omega
    have c1 : ¬ ((t.size - 4 : Nat) : Int) < 0 := by omega
    have c2 : 0 ≤ ((t.size - 4 : Nat) : Int) := by omega
    have c3 : ((t.size - 4 : Nat) : Int) ≤ (t.size : Int) := by omega
    by_cases h2 : t.size ≤ 20004
    · have c4 : ¬ ((t.size - 4 : Nat) : Int) > 20000 := by omega
      simp only [e, c1, c2, c3, c4, if_true, if_false, Int.toNat_natCast]
      have hz : (t.extract 0 (t.size - 4)).size = t.size - 4 := by rw [size_ext]; omega
      refine Ev.bind (spec_SumOf_ev _ (by omega)) ?_
      refine Ev.bind (spec_l02Four_ev _) ?_
      simp only [toList_iff, ← seal_iff t]
      by_cases h3 : t = sealB (t.extract 0 (t.size - 4))
      · rw [pUnsealed_yes ⟨by omega, h2, h3⟩]
        simp only [if_pos h3]
        exact Ev.now _
      · rw [pUnsealed_no (fun h => h3 h.2.2)]
        simp only [if_neg h3]
        exact Ev.now _
    · have c4 : ((t.size - 4 : Nat) : Int) > 20000 := by omega
      simp only [e, c1, c4, if_true, if_false]
      rw [pUnsealed_no (by omega)]
      exact Ev.now _

theorem spec_l05Rise_l0 (l : List Int) (lo up : Int) (hl : l.length ≤ 35184372088832) : ∀ (d : Nat) (i : Int), 0 ≤ i → i + d = l.length →
    Ev (fun k => spec_l05Rise.l0 k l lo up i) (rise lo up (prev l i) (l.drop i.toNat)) := by
  intro d
  induction d with
  | zero =>
    intro i h0 h
    apply ev_succ
    have c : ¬ i < (l.length : Int) := by omega
    simp only [spec_l05Rise.l0, c, if_false]
    apply ev_some
    rw [List.drop_of_length_le (by omega)]; simp [rise]
  | succ d ih =>
    intro i h0 h
    apply ev_succ
    have c : i < (l.length : Int) := by omega
    have e5 : wrap64 (i + 1) = i + 1 := w64 (by omega) (by omega)
    have e6 : wrap64 (i - 1) = i - 1 := w64 (by omega) (by omega)
    simp only [spec_l05Rise.l0, c, h0, if_true, e5, e6]
    refine Ev.bind (spec_l01In_ev _ _ _) ?_
    have hh := ih (i + 1) (by omega) (by omega)
    have hp : prev l (i + 1) = some (rd l i) := by rw [prev, if_neg (by omega)]; congr 2; omega
    rw [hp] at hh
    rw [drop_rd l i h0 c]
    by_cases hb : lo ≤ rd l i ∧ rd l i ≤ up
    · simp only [hb, and_self, decide_true, if_true]
      by_cases hi : i > 0
      · have k1 : 0 ≤ i - 1 := by omega
        have k2 : i - 1 < (l.length : Int) := by omega
        simp only [hi, k1, k2, if_true]
        rw [prev, if_neg (by omega)]
        by_cases hq : rd l (i - 1) ≥ rd l i
        · simp only [hq, if_true]
          apply ev_some
          simp [rise, show ¬ rd l (i - 1) < rd l i by omega]
        · simp only [hq, if_false]
          simpa [rise, hb, show rd l (i - 1) < rd l i by omega] using hh
      · simp only [hi, if_false]
        rw [prev, if_pos (by omega)]
        simpa [rise, hb] using hh
    · simp only [hb, decide_false, Bool.false_eq_true, if_false]
      apply ev_some
      cases prev l i <;> simp [rise, hb]
theorem spec_l05Rise_ev (l : List Int) (lo up : Int) (hl : l.length ≤ 35184372088832) : Ev (fun k => spec_l05Rise.f k l lo up) (rise lo up none l) := by
  simp only [spec_l05Rise.f]
  have := spec_l05Rise_l0 l lo up hl l.length 0 (by omega) (by omega)
  simpa [prev] using this
theorem spec_ConfOk_ev (l : List Int) (hl : l.length ≤ 35184372088832) : Ev (fun k => spec_ConfOk.f k l) (pConfOk l) := by
  simp only [spec_ConfOk.f]
  refine Ev.bind (spec_l01In_ev _ _ _) ?_
  by_cases h : 1 ≤ (l.length : Int) ∧ (l.length : Int) ≤ 4
  · simp only [h, and_self, decide_true, if_true]
    rw [pConfOk, decide_eq_true (by omega), Bool.true_and]
    exact Ev.bind (spec_l05Rise_ev l 1 4 hl) (Ev.now _)
  · simp only [h, decide_false, Bool.false_eq_true, if_false]
    apply ev_some
    cases hc : pConfOk l with
    | false => rfl
    | true => have := confOk_len l hc; omega

theorem spec_ReadConf_end (s : ByteArray) (hs : s.size ≤ 1048576) (x : List Int) (hx : x = (bytesOf s).take 5) :
    Ev (fun k => if (x.length : Int) = (s.size : Int) then ((spec_ConfOk.f k x).bind fun t => (if t = true then (some (x, true)) else (some ((([] : List Int)), false)))) else (some ((([] : List Int)), false))) (pReadConf s) := by
  have hxl : x.length = min 5 s.size := by rw [hx, List.length_take, bytes_len]
  by_cases h5 : s.size ≤ 5
  · rw [List.take_of_length_le (by rw [bytes_len]; omega)] at hx
    have c : (x.length : Int) = (s.size : Int) := by omega
    simp only [c, if_true]
    subst hx
    refine Ev.bind (spec_ConfOk_ev _ (by rw [bytes_len]; omega)) ?_
    by_cases h : pConfOk (bytesOf s) = true
    · simp only [h, if_true]
      rw [pReadConf_yes h]
      exact Ev.now _
    · simp only [h, if_false]
      rw [pReadConf_no h]
      exact Ev.now _
  · have c : ¬ (x.length : Int) = (s.size : Int) := by omega
    simp only [c, if_false]
    have hn : ¬ pConfOk (bytesOf s) = true := by
      intro h
      have := confOk_len _ h
      rw [bytes_len] at this
      omega
    rw [pReadConf_no hn]
    exact Ev.now _
theorem spec_ReadConf_ev (s : ByteArray) (hs : s.size ≤ 1048576) : Ev (fun k => spec_ReadConf.f k s) (pReadConf s) := by
  simp only [spec_ReadConf.f]
  have key := loop_up (fun k (x : List Int) i => spec_ReadConf.l0 k s x i) ((min 5 s.size : Nat) : Int) (pReadConf s) (fun x i => x = (bytesOf s).take i.toNat)
    (fun x hx => by
      have hx' : x = (bytesOf s).take 5 := by
        rw [hx, Int.toNat_natCast]
        by_cases h5 : s.size ≤ 5
        · rw [List.take_of_length_le (by rw [bytes_len]; omega), List.take_of_length_le (by rw [bytes_len]; omega)]
        · rw [show min 5 s.size = 5 by omega]
      have he := spec_ReadConf_end s hs x hx'
      by_cases c : ((min 5 s.size : Nat) : Int) < (s.size : Int)
      · have c2 : ¬ ((min 5 s.size : Nat) : Int) ≤ 4 := by omega
        simp only [spec_ReadConf.l0, c, c2, if_true, if_false]
        exact he
      · simp only [spec_ReadConf.l0, c, if_false]
        exact he)
    (fun x i h0 h1 hx ih => by
      have hxl : x.length ≤ s.size := by rw [hx, List.length_take, bytes_len]; omega
      have c1 : i < (s.size : Int) := by omega
      have c2 : i ≤ 4 := by omega
      have c3 : x.length < 17592186044416 := by omega
      have br := bt_range s i
      have e1 : wrap64 (bt s i) = bt s i := w64 (by omega) (by omega)
      have e2 : wrap64 (i + 1) = i + 1 := w64 (by omega) (by omega)
      simp only [spec_ReadConf.l0, c1, c2, h0, c3, if_true, e1, e2]
      refine ih _ ?_
      rw [take_snoc_rd _ i h0 (by rw [bytes_len]; exact c1), hx, bt_rd]
      rfl)
  exact key (min 5 s.size) 0 [] (by omega) (by omega) (by simp)

theorem spec_ConfText_ev (l : List Int) (hl : l.length ≤ 35184372088832) : Ev (fun k => spec_ConfText.f k l) (pConfText l) := by
  simp only [spec_ConfText.f]
  refine Ev.bind (spec_ConfOk_ev l hl) ?_
  by_cases h : pConfOk l = true
  · simp only [h, if_true]
    rw [pConfText_yes h]
    have key := loop_up (fun k (s : List Int) i => spec_ConfText.l0 k l s i) (l.length : Int) (confB l, true) (fun s i => s = (l.take i.toNat).map fun x => x % 256)
      (fun s hs => by
        subst hs
        have c : ¬ (l.length : Int) < (l.length : Int) := by omega
        simp only [spec_ConfText.l0, c, if_false]
        apply ev_some
        rw [List.take_of_length_le (by omega), confB])
      (fun s i h0 h1 hs ih => by
        have hsl : s.length ≤ l.length := by rw [hs, List.length_map, List.length_take]; omega
        have c3 : s.length < 140737488355328 := by omega
        have e2 : wrap64 (i + 1) = i + 1 := w64 (by omega) (by omega)
        simp only [spec_ConfText.l0, h1, h0, c3, if_true, e2]
        refine ih _ ?_
        rw [map_take_snoc _ l i h0 h1, hs])
    exact key l.length 0 [] (by omega) (by omega) (by simp)
  · simp only [h, if_false]
    rw [pConfText_no h]
    exact Ev.now _

theorem spec_Sealed_ev (s : ByteArray) (hs : s.size ≤ 140737488351232) : Ev (fun k => spec_Sealed.f k s) (pSealed s) := by
  simp only [spec_Sealed.f]
  by_cases h : (s.size : Int) > 20000
  · simp only [h, if_true]
    rw [pSealed_no (by omega)]
    exact Ev.now _
  · simp only [h, if_false]
    refine Ev.bind (spec_SumOf_ev s hs) ?_
    refine Ev.bind (spec_l02Four_ev _) ?_
    have c : s.size + (strOfNums (four (sumN s))).size ≤ 9223372036854775807 := by rw [str_len]; simp [four]; omega
    simp only [c, if_true]
    rw [pSealed_yes (by omega)]
    exact Ev.now _

theorem spec_l05Short_ev (s : ByteArray) (hs : s.size ≤ 1048576) : Ev (fun k => spec_l05Short.f k s) (varB s.size ++ s) := by
  simp only [spec_l05Short.f]
  refine Ev.bind (spec_l01Var_ev s.size (by omega)) ?_
  have hv := varB_size5 (n := s.size) (by omega)
  have c : (varB s.size).size + s.size ≤ 9223372036854775807 := by omega
  simp only [c, if_true]
  exact Ev.now _
theorem gt_nat4 {n : Nat} (h : (n : Int) + 4 > 20000) : ¬ n + 4 ≤ 20000 := by omega
theorem le_nat4 {n : Nat} (h : ¬ (n : Int) + 4 > 20000) : n + 4 ≤ 20000 := by omega
theorem lt_nat4 {n : Nat} (h : n + 4 ≤ 20000) : n ≤ 140737488351232 := by omega
theorem le_nat4' {n : Nat} (h : n + 4 ≤ 20000) : n ≤ 20000 := by omega
theorem le_nat {n : Nat} (h : ¬ (n : Int) > 20000) : n ≤ 20000 := by omega
theorem spec_SnapText_ev (idx t : Int) (conf : List Int) (body : ByteArray) (hc : conf.length ≤ 1048576) (hb : body.size ≤ 1048576) : Ev (fun k => spec_SnapText.f k idx t conf body) (pSnapText idx t conf body) := by
  simp only [spec_SnapText.f]
  refine Ev.bind (spec_ConfText_ev conf (by omega)) ?_
  have hno : ∀ x, ¬ snapOk idx t conf body → Ev (fun k => spec_SnapText.j0 k x true idx t conf body) (pSnapText idx t conf body) := by
    intro x hn
    apply ev_succ
    simp only [spec_SnapText.j0, if_true]
    rw [pSnapText_no hn]
    exact Ev.now _
  by_cases h1 : pConfOk conf = true
  · rw [pConfText_yes h1]
    simp only [if_true]
    refine Ev.bind (spec_l01In_ev _ _ _) ?_
    by_cases h3 : 0 ≤ idx ∧ idx ≤ 1000000
    · simp only [h3, and_self, decide_true, if_true]
      refine Ev.bind (spec_l01In_ev _ _ _) ?_
      by_cases h4 : 0 ≤ t ∧ t ≤ 100000
      · simp only [h4, and_self, decide_true, if_true]
        by_cases h2 : (body.size : Int) > 20000
        · simp only [h2, decide_true]
          exact hno _ (fun h => by have := h.2.2.2.1; omega)
        · simp only [h2, decide_false]
          apply ev_succ
          simp only [spec_SnapText.j0, Bool.false_eq_true, if_false]
          have hl := confOk_len conf h1
          have hcs := confB_size conf
          obtain ⟨n, rfl⟩ := Int.eq_ofNat_of_zero_le h3.1
          obtain ⟨m, rfl⟩ := Int.eq_ofNat_of_zero_le h4.1
          have v1 := varB_size5 (n := n) (by omega)
          have v2 := varB_size5 (n := m) (by omega)
          have v3 := varB_size5 (n := (confB conf).size) (by omega)
          have v4 := varB_size5 (n := body.size) (by omega)
          have hz := snapIn_size (n : Int) (m : Int) (confB conf) body
          rw [Int.toNat_natCast, Int.toNat_natCast] at hz
          refine Ev.bind (spec_l01Var_ev n (by omega)) ?_
          refine Ev.bind (spec_l01Var_ev m (by omega)) ?_
          have c1 : (varB n).size + (varB m).size ≤ 9223372036854775807 := by omega
          simp only [c1, if_true]
          refine Ev.bind (spec_l05Short_ev (confB conf) (by omega)) ?_
          have c2 : (varB n ++ varB m).size + (varB (confB conf).size ++ confB conf).size ≤ 9223372036854775807 := by rw [size_app, size_app]; omega
          simp only [c2, if_true]
          refine Ev.bind (spec_l05Short_ev body hb) ?_
          have c3 : ((varB n ++ varB m) ++ (varB (confB conf).size ++ confB conf)).size + (varB body.size ++ body).size ≤ 9223372036854775807 := by rw [size_app, size_app, size_app, size_app]; omega
          have hin : ((varB n ++ varB m) ++ (varB (confB conf).size ++ confB conf)) ++ (varB body.size ++ body) = snapIn (n : Int) (m : Int) (confB conf) body := by rw [snapIn, Int.toNat_natCast, Int.toNat_natCast]
          have e : wrap64 (((snapIn (n : Int) (m : Int) (confB conf) body).size : Int) + 4) = (snapIn (n : Int) (m : Int) (confB conf) body).size + 4 := w64 (by omega) (by omega)
          simp only [c3, if_true, hin, e]
          by_cases h6 : ((snapIn (n : Int) (m : Int) (confB conf) body).size : Int) + 4 > 20000
          · simp only [h6, if_true]
            rw [pSnapText_no (fun h => gt_nat4 h6 h.2.2.2.2)]
            exact Ev.now _
          · simp only [h6, if_false]
            have h7 := le_nat4 h6
            have h8 := le_nat h2
            refine Ev.bind (spec_Sealed_ev _ (lt_nat4 h7)) ?_
            rw [pSealed_yes (le_nat4' h7), pSnapText_yes ⟨h1, h3, h4, h8, h7⟩]
            exact Ev.now _
      · simp only [h4, decide_false, Bool.false_eq_true, if_false]
        exact hno _ (fun h => h4 h.2.2.1)
    · simp only [h3, decide_false, Bool.false_eq_true, if_false]
      exact hno _ (fun h => h3 h.2.1)
  · rw [pConfText_no h1]
    simp only [Bool.false_eq_true, if_false]
    exact hno _ (fun h => h1 h.1)

theorem spec_l05ReadShort_ev (s : ByteArray) (hs : s.size ≤ 140737488351232) (a : Int) (b : Bool) (ha : curOk s a) : Ev (fun k => spec_l05ReadShort.f k s a b) ((curShS s a b).1, s, (curShS s a b).2.1, (curShS s a b).2.2) := by
  simp only [spec_l05ReadShort.f]
  refine Ev.bind (spec_l05Var_ev s hs a b) ?_
  simp only
  refine Ev.bind (spec_l05Take_ev s hs _ _ _ (curVar_ok ha) (curVar_range s a b)) ?_
  exact Ev.now _
theorem pUnsealed_size' (t : ByteArray) : (pUnsealed t).1.size ≤ t.size := by
  unfold pUnsealed
  split
  · rw [size_ext]; omega
  · exact Nat.zero_le _
theorem pReadConf_len (s : ByteArray) : (pReadConf s).1.length ≤ s.size := by
  unfold pReadConf
  split
  · simp only [bytes_len]; exact Nat.le_refl _
  · simp
theorem spec_ReadSnap_ev (t : ByteArray) (ht : t.size ≤ 1048576) : Ev (fun k => spec_ReadSnap.f k t) (snapS t) := by
  simp only [spec_ReadSnap.f]
  unfold snapS
  simp only
  refine Ev.bind (spec_Unsealed_ev t (by omega)) ?_
  have hsz := pUnsealed_size' t
  obtain ⟨s, ok, hu⟩ : ∃ s ok, pUnsealed t = (s, ok) := ⟨_, _, rfl⟩
  rw [hu] at hsz ⊢
  simp only at hsz ⊢
  have hs : s.size ≤ 140737488351232 := by omega
  have k0 : curOk s 0 := by unfold curOk; omega
  refine Ev.bind (spec_l05Var_ev s hs 0 (!ok)) ?_
  have k1 := curVar_ok (b := !ok) k0
  obtain ⟨x1, a1, b1, e1⟩ : ∃ c a b, curVar s 0 (!ok) = (c, a, b) := ⟨_, _, _, rfl⟩
  rw [e1] at k1 ⊢
  simp only at k1 ⊢
  refine Ev.bind (spec_l05Var_ev s hs a1 b1) ?_
  have k2 := curVar_ok (b := b1) k1
  obtain ⟨x2, a2, b2, e2⟩ : ∃ c a b, curVar s a1 b1 = (c, a, b) := ⟨_, _, _, rfl⟩
  rw [e2] at k2 ⊢
  simp only at k2 ⊢
  refine Ev.bind (spec_l05ReadShort_ev s hs a2 b2 k2) ?_
  have z3 := curShS_size s a2 b2
  have k3 := curShS_ok (b := b2) k2
  obtain ⟨x3, a3, b3, e3⟩ : ∃ c a b, curShS s a2 b2 = (c, a, b) := ⟨_, _, _, rfl⟩
  rw [e3] at z3 k3 ⊢
  simp only at z3 k3 ⊢
  refine Ev.bind (spec_ReadConf_ev x3 (by omega)) ?_
  have hcl := pReadConf_len x3
  refine Ev.bind (spec_l05ReadShort_ev s hs a3 b3 k3) ?_
  have z4 := curShS_size s a3 b3
  obtain ⟨x4, a4, b4, e4⟩ : ∃ c a b, curShS s a3 b3 = (c, a, b) := ⟨_, _, _, rfl⟩
  rw [e4] at z4 ⊢
  simp only at z4 ⊢
  refine Ev.bind (spec_SnapText_ev x1 x2 (pReadConf x3).1 x4 (by omega) (by omega)) ?_
  cases b4 with
  | true => simp only [if_true]; exact Ev.now _
  | false =>
    simp only [Bool.false_eq_true, if_false]
    by_cases h1 : (pSnapText x1 x2 (pReadConf x3).1 x4).2 = true
    · by_cases h2 : (pSnapText x1 x2 (pReadConf x3).1 x4).1 = t
      · simp only [h1, h2, if_true, and_self]; exact Ev.now _
      · have h2' : ¬ (pSnapText x1 x2 (pReadConf x3).1 x4).1.toList = t.toList := fun h => h2 (toList_iff.1 h)
        simp only [h1, h2, h2', if_true, if_false, and_false]; exact Ev.now _
    · simp only [h1, if_false, false_and]; exact Ev.now _

theorem laws_eqIntS_l0 (a b : List Int) (hl : a.length = b.length) (hb : a.length ≤ 35184372088832) : ∀ (d : Nat) (i : Int), 0 ≤ i → i + d = a.length →
    Ev (fun k => laws_eqIntS.l0 k a b i) (decide (a.drop i.toNat = b.drop i.toNat)) := by
  intro d
  induction d with
  | zero =>
    intro i h0 h
    apply ev_succ
    have c : ¬ i < (a.length : Int) := by omega
    simp only [laws_eqIntS.l0, c, if_false]
    apply ev_some
    rw [List.drop_of_length_le (by omega), List.drop_of_length_le (by omega)]
    simp
  | succ d ih =>
    intro i h0 h
    apply ev_succ
    have c : i < (a.length : Int) := by omega
    have c2 : i < (b.length : Int) := by omega
    have e5 : wrap64 (i + 1) = i + 1 := w64 (by omega) (by omega)
    have hh := ih (i + 1) (by omega) (by omega)
    simp only [laws_eqIntS.l0, c, c2, h0, if_true, e5]
    rw [drop_rd a i h0 c, drop_rd b i h0 c2]
    by_cases hq : rd a i = rd b i
    · simp only [hq, if_true, List.cons.injEq, true_and]
      exact hh
    · simp only [hq, if_false, List.cons.injEq, false_and, decide_false]
      exact Ev.now _
theorem laws_eqIntS_ev (a b : List Int) (hb : a.length ≤ 35184372088832) : Ev (fun k => laws_eqIntS.f k a b) (decide (a = b)) := by
  simp only [laws_eqIntS.f]
  by_cases hl : (a.length : Int) = (b.length : Int)
  · simp only [hl, if_true]
    simpa using laws_eqIntS_l0 a b (by omega) hb a.length 0 (by omega) (by omega)
  · simp only [hl, if_false]
    rw [decide_eq_false (by rintro rfl; exact hl rfl)]
    exact Ev.now _

theorem laws_markIntS_ev (l : List Int) (a : Int) (h0 : 0 ≤ a) (h1 : a ≤ 140737488355328) (hl : l.length ≤ 140737488355328) : Ev (fun k => laws_markIntS.f k l a) (a + l.length, iota a l.length) := by
  simp only [laws_markIntS.f]
  have key := loop_up (fun k (s : List Int × Int) i => laws_markIntS.l0 k s.1 s.2 i) (l.length : Int) (a + l.length, iota a l.length)
    (fun s i => s.1.length = l.length ∧ s.2 = a + i ∧ s.1.take i.toNat = (iota a l.length).take i.toNat)
    (fun s hs => by
      obtain ⟨b, x⟩ := s
      obtain ⟨hb, rfl, ht⟩ := hs
      simp only at hb ht ⊢
      have c : ¬ (l.length : Int) < (b.length : Int) := by omega
      simp only [laws_markIntS.l0, c, if_false]
      apply ev_some
      rw [List.take_of_length_le (by omega), List.take_of_length_le (by rw [iota_len]; omega)] at ht
      rw [ht])
    (fun s i h0 h1 hs ih => by
      obtain ⟨b, x⟩ := s
      obtain ⟨hb, rfl, ht⟩ := hs
      simp only at hb ht ⊢
      have c : i < (b.length : Int) := by omega
      have e1 : wrap64 (a + i + 1) = a + i + 1 := w64 (by omega) (by omega)
      have e2 : wrap64 (i + 1) = i + 1 := w64 (by omega) (by omega)
      simp only [laws_markIntS.l0, c, h0, if_true, e1, e2]
      refine ih (b.set i.toNat (a + i), a + i + 1) ⟨by simp [hb], by simp only; omega, ?_⟩
      simp only
      rw [show (i + 1).toNat = i.toNat + 1 by omega]
      refine take_set (iota a l.length) b i.toNat _ (by rw [iota_len]; exact hb) (by rw [iota_len]; omega) ht ?_
      rw [iota_get _ _ _ (by omega)]; congr 1; omega)
  exact key l.length 0 (l, a) (by omega) (by omega) ⟨rfl, by simp, by simp⟩
theorem laws_heldIntS_ev (a : Int) (n : Nat) (h0 : 0 ≤ a) (h1 : a ≤ 140737488355328) (hn : n ≤ 140737488355328) : Ev (fun k => laws_heldIntS.f k (iota a n) a) (a + n) := by
  simp only [laws_heldIntS.f]
  have key := loop_up (fun k (s : Int) i => laws_heldIntS.l0 k (iota a n) s i) (n : Int) (a + n) (fun s i => s = a + i)
    (fun s hs => by
      subst hs
      have c : ¬ (n : Int) < ((iota a n).length : Int) := by rw [iota_len]; omega
      simp only [laws_heldIntS.l0, c, if_false]
      exact Ev.now _)
    (fun s i h0 h1 hs ih => by
      subst hs
      have c : i < ((iota a n).length : Int) := by rw [iota_len]; omega
      have e1 : wrap64 (a + i + 1) = a + i + 1 := w64 (by omega) (by omega)
      have e2 : wrap64 (i + 1) = i + 1 := w64 (by omega) (by omega)
      have e3 : rd (iota a n) i = a + i := by
        rw [rd, List.getD_eq_getElem?_getD, iota_get _ _ _ (by omega)]; simp; omega
      simp only [laws_heldIntS.l0, c, h0, if_true, e1, e2, e3]
      exact ih _ (by omega))
  exact key n 0 a (by omega) (by omega) (by omega)

theorem snapI_len (t : ByteArray) : (snapI t).2.2.1.length ≤ t.size := by
  unfold snapI
  simp only
  split
  · rename_i h
    have h1 : (pUnsealed t).1.size ≤ t.size := pUnsealed_size t
    exact Nat.le_trans (pReadConf_len _) (Nat.le_trans (curShI_size _ _ _) h1)
  · simp
theorem laws_eqSnap_ev (a b : Int) (l : List Int) (s : ByteArray) (hl : l.length ≤ 1048576) : Ev (fun k => laws_eqSnap.f k a b l s a b l s) true := by
  simp only [laws_eqSnap.f, if_true]
  refine Ev.bind (laws_eqIntS_ev l l (by omega)) ?_
  simp
theorem laws_markSnap_ev (a b : Int) (l : List Int) (s : ByteArray) (hl : l.length ≤ 1048576) : Ev (fun k => laws_markSnap.f k a b l s 1) (1 + l.length, iota 1 l.length) := by
  simp only [laws_markSnap.f]
  exact Ev.bind (laws_markIntS_ev l 1 (by decide) (by decide) (by omega)) (Ev.now _)
theorem laws_heldSnap_ev (a b : Int) (n : Nat) (s : ByteArray) (hn : n ≤ 1048576) : Ev (fun k => laws_heldSnap.f k a b (iota 1 n) s 1) (1 + n) := by
  simp only [laws_heldSnap.f]
  refine Ev.bind (laws_heldIntS_ev 1 n (by decide) (by decide) (by omega)) ?_
  have c : ¬ (1 : Int) + (n : Int) < 0 := by omega
  simp only [c, if_false]
  exact Ev.now _
theorem FnExactReadSnap : laws_FnExactReadSnap.Pure := by
  intro t ht
  apply ev_rounds
  simp only [laws_FnExactReadSnap.f]
  by_cases c : (t.size : Int) > 1048576
  · simp only [c, if_true]
    exact Ev.now _
  simp only [c, if_false]
  have hI := impl_ReadSnap_ev t (by omega)
  have hS := spec_ReadSnap_ev t (by omega)
  rw [← snap_same] at hS
  have hl := snapI_len t
  obtain ⟨x, y, l, s, b, e⟩ : ∃ x y l s b, snapI t = (x, y, l, s, b) := ⟨_, _, _, _, _, rfl⟩
  rw [e] at hI hS hl
  simp only at hl
  have hq := laws_eqSnap_ev x y l s (by omega)
  have hm := laws_markSnap_ev x y l s (by omega)
  have hh := laws_heldSnap_ev x y l.length s (by omega)
  have h2 : ¬ (1 : Int) + (l.length : Int) < 0 := by omega
  refine Ev.bind hS ?_
  refine Ev.bind hI ?_
  refine Ev.bind hq ?_
  simp only [if_true, bne_self_eq_false]
  apply ev_succ
  simp only [laws_FnExactReadSnap.j0, Bool.false_eq_true, if_false]
  refine Ev.bind hm ?_
  refine Ev.bind hh ?_
  simp only [h2, if_false, if_true]
  refine Ev.bind hI ?_
  refine Ev.bind hq ?_
  simp only [if_true, bne_self_eq_false]
  apply ev_succ
  simp only [laws_FnExactReadSnap.j1, Bool.false_eq_true, if_false]
  refine Ev.bind hh ?_
  simp only [h2, if_false, if_true]
  exact Ev.now _

end Go.Proofs.Ytaainenplcokaaa.Pure
