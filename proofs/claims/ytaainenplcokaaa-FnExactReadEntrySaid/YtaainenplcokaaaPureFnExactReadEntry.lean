/- ReadEntry of the program and of the reference answer the same for every text. -/
import Derived.Test.YtaainenplcokaaaQFnExactReadEntryx5
import Derived.Test.YtaainenplcokaaaBaseL
import Derived.Test.YtaainenplcokaaaBaseR
namespace Go.Proofs.Ytaainenplcokaaa.Pure
open Go.RowKit Go.Proofs.Ytaainenplcokaaa.QFnExactReadEntry Go.Proofs.YtaainenplcokaaaW.PrintWords Go.Proofs.YtaainenplcokaaaW.PrintLast Go.Proofs.YtaainenplcokaaaW.PrintMore Go.Proofs.Ytaainenplcokaaa.Base
set_option linter.unusedVariables false
set_option linter.unusedSimpArgs false

theorem impl_within_ev (a b c : Int) : Ev (fun _ => impl_within.f a b c) (decide (b ≤ a ∧ a ≤ c)) := by
  apply ev_const
  unfold impl_within.f
  by_cases h : a ≥ b
  · rw [if_pos h]; simp [show b ≤ a from h]
  · rw [if_neg h]; simp [show ¬ b ≤ a from h]

theorem impl_ReadVar_i5 (s : ByteArray) (at_ n : Int) (l : List Int) (sc : Int) : Ev (fun k => impl_ReadVar.l0 k s at_ n 5) (rvOut (at_ + 5) (rvF 0 sc n false l)) := by
  apply ev_succ
  simp only [impl_ReadVar.l0, show ¬ (5 : Int) < 5 by decide, if_false]
  apply ev_succ
  simp only [impl_ReadVar.j1, Bool.false_eq_true, if_false]
  exact Ev.now _
theorem impl_ReadVar_i4 (s : ByteArray) (hs : s.size ≤ 140737488351232) (at_ : Int) (h0 : 0 ≤ at_) (h1 : at_ ≤ s.size) (n : Int) (hn0 : 0 ≤ n) (hn : n < 268435456) :
    Ev (fun k => impl_ReadVar.l0 k s at_ n 4) (rvOut (at_ + 4) (rvF 1 268435456 n false ((bytesOf s).drop (at_ + 4).toNat))) := by
  apply ev_succ
  have e1 : wrap64 (at_ + 4) = at_ + 4 := w64 (by omega) (by omega)
  simp only [impl_ReadVar.l0, show (4 : Int) < 5 by decide, if_true, e1]
  apply ev_succ
  by_cases c : at_ + 4 < (s.size : Int)
  · rw [drop_bt s (at_ + 4) (by omega) c]
    have br := bt_range s (at_ + 4)
    have e0 : 0 ≤ at_ + 4 := by omega
    have e7 : (at_ + 4 + 1).toNat = (at_ + 5).toNat := by omega
    rw [e7]
    simp only [impl_ReadVar.j1, c, decide_true, if_true, e0, e1]
    have hnext := fun (m : Int) (_ _ : True) => impl_ReadVar_i5 s at_ m ((bytesOf s).drop (at_ + 5).toNat) 34359738368
    generalize bt s (at_ + 4) = b at br hnext ⊢
    have e2 : wrap64 b = b := w64 (by omega) (by omega)
    have e3 : Int.tmod b 128 = b % 128 := Int.tmod_eq_emod_of_nonneg (by omega)
    have e4 : wrap64 (7 * 4) = 28 := wlit (by decide) (by decide) (by decide)
    have e5 : shl .i64 (b % 128) 28 = b % 128 * 268435456 := shl7 (b % 128) 28 (by omega) (by omega) (by decide)
    have e6 : wrap64 (n + b % 128 * 268435456) = n + b % 128 * 268435456 := w64 (by omega) (by omega)
    have e8 : wrap64 (4 + 1) = 5 := wlit (by decide) (by decide) (by decide)
    have e9 : wrap64 (at_ + 4 + 1) = at_ + 4 + 1 := w64 (by omega) (by omega)
    simp only [if_true, e1, e2, e3, e4, e5, e6, e8, e9, show (0 : Int) ≤ 28 by decide, show (4 : Int) > 0 by decide]
    by_cases hb : b > 127
    · have hh := hnext (n + b % 128 * 268435456) trivial trivial
      rw [rvF_more hb, rvOut_map]
      simp only [hb, if_true]
      simpa only [show at_ + 4 + 1 = at_ + 5 by omega, show (268435456 : Int) * 128 = 34359738368 by decide] using hh
    · by_cases hz : b = 0
      · rw [rvF_stop hb (Or.inl ⟨rfl, hz⟩)]
        simp only [hb, hz, if_true, if_false]
        exact Ev.now _
      · by_cases hg : n + b % 128 * 268435456 > 1000000000
        · rw [rvF_stop hb (Or.inr hg)]
          simp only [hb, hz, hg, if_true, if_false]
          exact Ev.now _
        · rw [rvF_take hb (by simp [hz]) hg]
          simp only [hb, hz, hg, if_false]
          exact Ev.now _
  · simp only [impl_ReadVar.j1, c, decide_false, Bool.false_eq_true, if_false]
    rw [List.drop_of_length_le (by rw [bytes_len]; omega)]
    exact Ev.now _
theorem impl_ReadVar_i3 (s : ByteArray) (hs : s.size ≤ 140737488351232) (at_ : Int) (h0 : 0 ≤ at_) (h1 : at_ ≤ s.size) (n : Int) (hn0 : 0 ≤ n) (hn : n < 2097152) :
    Ev (fun k => impl_ReadVar.l0 k s at_ n 3) (rvOut (at_ + 3) (rvF 2 2097152 n false ((bytesOf s).drop (at_ + 3).toNat))) := by
  apply ev_succ
  have e1 : wrap64 (at_ + 3) = at_ + 3 := w64 (by omega) (by omega)
  simp only [impl_ReadVar.l0, show (3 : Int) < 5 by decide, if_true, e1]
  apply ev_succ
  by_cases c : at_ + 3 < (s.size : Int)
  · rw [drop_bt s (at_ + 3) (by omega) c]
    have br := bt_range s (at_ + 3)
    have e0 : 0 ≤ at_ + 3 := by omega
    have e7 : (at_ + 3 + 1).toNat = (at_ + 4).toNat := by omega
    rw [e7]
    simp only [impl_ReadVar.j1, c, decide_true, if_true, e0, e1]
    have hnext := fun (m : Int) (hm0 : 0 ≤ m) (hm : m < 268435456) => impl_ReadVar_i4 s hs at_ h0 h1 m hm0 hm
    generalize bt s (at_ + 3) = b at br hnext ⊢
    have e2 : wrap64 b = b := w64 (by omega) (by omega)
    have e3 : Int.tmod b 128 = b % 128 := Int.tmod_eq_emod_of_nonneg (by omega)
    have e4 : wrap64 (7 * 3) = 21 := wlit (by decide) (by decide) (by decide)
    have e5 : shl .i64 (b % 128) 21 = b % 128 * 2097152 := shl7 (b % 128) 21 (by omega) (by omega) (by decide)
    have e6 : wrap64 (n + b % 128 * 2097152) = n + b % 128 * 2097152 := w64 (by omega) (by omega)
    have e8 : wrap64 (3 + 1) = 4 := wlit (by decide) (by decide) (by decide)
    have e9 : wrap64 (at_ + 3 + 1) = at_ + 3 + 1 := w64 (by omega) (by omega)
    simp only [if_true, e1, e2, e3, e4, e5, e6, e8, e9, show (0 : Int) ≤ 21 by decide, show (3 : Int) > 0 by decide]
    by_cases hb : b > 127
    · have hh := hnext (n + b % 128 * 2097152) (by omega) (by omega)
      rw [rvF_more hb, rvOut_map]
      simp only [hb, if_true]
      simpa only [show at_ + 3 + 1 = at_ + 4 by omega, show (2097152 : Int) * 128 = 268435456 by decide] using hh
    · by_cases hz : b = 0
      · rw [rvF_stop hb (Or.inl ⟨rfl, hz⟩)]
        simp only [hb, hz, if_true, if_false]
        exact Ev.now _
      · by_cases hg : n + b % 128 * 2097152 > 1000000000
        · rw [rvF_stop hb (Or.inr hg)]
          simp only [hb, hz, hg, if_true, if_false]
          exact Ev.now _
        · rw [rvF_take hb (by simp [hz]) hg]
          simp only [hb, hz, hg, if_false]
          exact Ev.now _
  · simp only [impl_ReadVar.j1, c, decide_false, Bool.false_eq_true, if_false]
    rw [List.drop_of_length_le (by rw [bytes_len]; omega)]
    exact Ev.now _
theorem impl_ReadVar_i2 (s : ByteArray) (hs : s.size ≤ 140737488351232) (at_ : Int) (h0 : 0 ≤ at_) (h1 : at_ ≤ s.size) (n : Int) (hn0 : 0 ≤ n) (hn : n < 16384) :
    Ev (fun k => impl_ReadVar.l0 k s at_ n 2) (rvOut (at_ + 2) (rvF 3 16384 n false ((bytesOf s).drop (at_ + 2).toNat))) := by
  apply ev_succ
  have e1 : wrap64 (at_ + 2) = at_ + 2 := w64 (by omega) (by omega)
  simp only [impl_ReadVar.l0, show (2 : Int) < 5 by decide, if_true, e1]
  apply ev_succ
  by_cases c : at_ + 2 < (s.size : Int)
  · rw [drop_bt s (at_ + 2) (by omega) c]
    have br := bt_range s (at_ + 2)
    have e0 : 0 ≤ at_ + 2 := by omega
    have e7 : (at_ + 2 + 1).toNat = (at_ + 3).toNat := by omega
    rw [e7]
    simp only [impl_ReadVar.j1, c, decide_true, if_true, e0, e1]
    have hnext := fun (m : Int) (hm0 : 0 ≤ m) (hm : m < 2097152) => impl_ReadVar_i3 s hs at_ h0 h1 m hm0 hm
    generalize bt s (at_ + 2) = b at br hnext ⊢
    have e2 : wrap64 b = b := w64 (by omega) (by omega)
    have e3 : Int.tmod b 128 = b % 128 := Int.tmod_eq_emod_of_nonneg (by omega)
    have e4 : wrap64 (7 * 2) = 14 := wlit (by decide) (by decide) (by decide)
    have e5 : shl .i64 (b % 128) 14 = b % 128 * 16384 := shl7 (b % 128) 14 (by omega) (by omega) (by decide)
    have e6 : wrap64 (n + b % 128 * 16384) = n + b % 128 * 16384 := w64 (by omega) (by omega)
    have e8 : wrap64 (2 + 1) = 3 := wlit (by decide) (by decide) (by decide)
    have e9 : wrap64 (at_ + 2 + 1) = at_ + 2 + 1 := w64 (by omega) (by omega)
    simp only [if_true, e1, e2, e3, e4, e5, e6, e8, e9, show (0 : Int) ≤ 14 by decide, show (2 : Int) > 0 by decide]
    by_cases hb : b > 127
    · have hh := hnext (n + b % 128 * 16384) (by omega) (by omega)
      rw [rvF_more hb, rvOut_map]
      simp only [hb, if_true]
      simpa only [show at_ + 2 + 1 = at_ + 3 by omega, show (16384 : Int) * 128 = 2097152 by decide] using hh
    · by_cases hz : b = 0
      · rw [rvF_stop hb (Or.inl ⟨rfl, hz⟩)]
        simp only [hb, hz, if_true, if_false]
        exact Ev.now _
      · by_cases hg : n + b % 128 * 16384 > 1000000000
        · rw [rvF_stop hb (Or.inr hg)]
          simp only [hb, hz, hg, if_true, if_false]
          exact Ev.now _
        · rw [rvF_take hb (by simp [hz]) hg]
          simp only [hb, hz, hg, if_false]
          exact Ev.now _
  · simp only [impl_ReadVar.j1, c, decide_false, Bool.false_eq_true, if_false]
    rw [List.drop_of_length_le (by rw [bytes_len]; omega)]
    exact Ev.now _
theorem impl_ReadVar_i1 (s : ByteArray) (hs : s.size ≤ 140737488351232) (at_ : Int) (h0 : 0 ≤ at_) (h1 : at_ ≤ s.size) (n : Int) (hn0 : 0 ≤ n) (hn : n < 128) :
    Ev (fun k => impl_ReadVar.l0 k s at_ n 1) (rvOut (at_ + 1) (rvF 4 128 n false ((bytesOf s).drop (at_ + 1).toNat))) := by
  apply ev_succ
  have e1 : wrap64 (at_ + 1) = at_ + 1 := w64 (by omega) (by omega)
  simp only [impl_ReadVar.l0, show (1 : Int) < 5 by decide, if_true, e1]
  apply ev_succ
  by_cases c : at_ + 1 < (s.size : Int)
  · rw [drop_bt s (at_ + 1) (by omega) c]
    have br := bt_range s (at_ + 1)
    have e0 : 0 ≤ at_ + 1 := by omega
    have e7 : (at_ + 1 + 1).toNat = (at_ + 2).toNat := by omega
    rw [e7]
    simp only [impl_ReadVar.j1, c, decide_true, if_true, e0, e1]
    have hnext := fun (m : Int) (hm0 : 0 ≤ m) (hm : m < 16384) => impl_ReadVar_i2 s hs at_ h0 h1 m hm0 hm
    generalize bt s (at_ + 1) = b at br hnext ⊢
    have e2 : wrap64 b = b := w64 (by omega) (by omega)
    have e3 : Int.tmod b 128 = b % 128 := Int.tmod_eq_emod_of_nonneg (by omega)
    have e4 : wrap64 (7 * 1) = 7 := wlit (by decide) (by decide) (by decide)
    have e5 : shl .i64 (b % 128) 7 = b % 128 * 128 := shl7 (b % 128) 7 (by omega) (by omega) (by decide)
    have e6 : wrap64 (n + b % 128 * 128) = n + b % 128 * 128 := w64 (by omega) (by omega)
    have e8 : wrap64 (1 + 1) = 2 := wlit (by decide) (by decide) (by decide)
    have e9 : wrap64 (at_ + 1 + 1) = at_ + 1 + 1 := w64 (by omega) (by omega)
    simp only [if_true, e1, e2, e3, e4, e5, e6, e8, e9, show (0 : Int) ≤ 7 by decide, show (1 : Int) > 0 by decide]
    by_cases hb : b > 127
    · have hh := hnext (n + b % 128 * 128) (by omega) (by omega)
      rw [rvF_more hb, rvOut_map]
      simp only [hb, if_true]
      simpa only [show at_ + 1 + 1 = at_ + 2 by omega, show (128 : Int) * 128 = 16384 by decide] using hh
    · by_cases hz : b = 0
      · rw [rvF_stop hb (Or.inl ⟨rfl, hz⟩)]
        simp only [hb, hz, if_true, if_false]
        exact Ev.now _
      · by_cases hg : n + b % 128 * 128 > 1000000000
        · rw [rvF_stop hb (Or.inr hg)]
          simp only [hb, hz, hg, if_true, if_false]
          exact Ev.now _
        · rw [rvF_take hb (by simp [hz]) hg]
          simp only [hb, hz, hg, if_false]
          exact Ev.now _
  · simp only [impl_ReadVar.j1, c, decide_false, Bool.false_eq_true, if_false]
    rw [List.drop_of_length_le (by rw [bytes_len]; omega)]
    exact Ev.now _
theorem impl_ReadVar_i0 (s : ByteArray) (hs : s.size ≤ 140737488351232) (at_ : Int) (h0 : 0 ≤ at_) (h1 : at_ ≤ s.size) (n : Int) (hn0 : 0 ≤ n) (hn : n < 1) :
    Ev (fun k => impl_ReadVar.l0 k s at_ n 0) (rvOut (at_ + 0) (rvF 5 1 n true ((bytesOf s).drop (at_ + 0).toNat))) := by
  apply ev_succ
  have e1 : wrap64 (at_ + 0) = at_ + 0 := w64 (by omega) (by omega)
  simp only [impl_ReadVar.l0, show (0 : Int) < 5 by decide, if_true, e1]
  apply ev_succ
  by_cases c : at_ + 0 < (s.size : Int)
  · rw [drop_bt s (at_ + 0) (by omega) c]
    have br := bt_range s (at_ + 0)
    have e0 : 0 ≤ at_ + 0 := by omega
    have e7 : (at_ + 0 + 1).toNat = (at_ + 1).toNat := by omega
    rw [e7]
    simp only [impl_ReadVar.j1, c, decide_true, if_true, e0, e1]
    have hnext := fun (m : Int) (hm0 : 0 ≤ m) (hm : m < 128) => impl_ReadVar_i1 s hs at_ h0 h1 m hm0 hm
    generalize bt s (at_ + 0) = b at br hnext ⊢
    have e2 : wrap64 b = b := w64 (by omega) (by omega)
    have e3 : Int.tmod b 128 = b % 128 := Int.tmod_eq_emod_of_nonneg (by omega)
    have e4 : wrap64 (7 * 0) = 0 := wlit (by decide) (by decide) (by decide)
    have e5 : shl .i64 (b % 128) 0 = b % 128 * 1 := shl7 (b % 128) 0 (by omega) (by omega) (by decide)
    have e6 : wrap64 (n + b % 128 * 1) = n + b % 128 * 1 := w64 (by omega) (by omega)
    have e8 : wrap64 (0 + 1) = 1 := wlit (by decide) (by decide) (by decide)
    have e9 : wrap64 (at_ + 0 + 1) = at_ + 0 + 1 := w64 (by omega) (by omega)
    simp only [if_true, e1, e2, e3, e4, e5, e6, e8, e9, show (0 : Int) ≤ 0 by decide, show ¬ (0 : Int) > 0 by decide, if_false]
    by_cases hb : b > 127
    · have hh := hnext (n + b % 128 * 1) (by omega) (by omega)
      rw [rvF_more hb, rvOut_map]
      simp only [hb, if_true]
      simpa only [show at_ + 0 + 1 = at_ + 1 by omega, show (1 : Int) * 128 = 128 by decide] using hh
    · by_cases hg : n + b % 128 * 1 > 1000000000
      · rw [rvF_stop hb (Or.inr hg)]
        simp only [hb, hg, if_true, if_false]
        exact Ev.now _
      · rw [rvF_take hb (by simp) hg]
        simp only [hb, hg, if_false]
        exact Ev.now _
  · simp only [impl_ReadVar.j1, c, decide_false, Bool.false_eq_true, if_false]
    rw [List.drop_of_length_le (by rw [bytes_len]; omega)]
    exact Ev.now _
theorem impl_ReadVar_ev (s : ByteArray) (hs : s.size ≤ 140737488351232) (at_ : Int) : Ev (fun k => impl_ReadVar.f k s at_) (pReadVar s at_) := by
  simp only [impl_ReadVar.f]
  refine Ev.bind (impl_within_ev _ _ _) ?_
  by_cases h : 0 ≤ at_ ∧ at_ ≤ (s.size : Int)
  · simp only [h, and_self, decide_true, if_true]
    rw [pReadVar_in h]
    have hh := impl_ReadVar_i0 s hs at_ h.1 h.2 0 (by decide) (by decide)
    simpa only [Int.add_zero] using hh
  · simp only [h, decide_false, Bool.false_eq_true, if_false]
    rw [pReadVar_out h]
    exact Ev.now _

theorem impl_scan_number_ev (s : ByteArray) (hs : s.size ≤ 140737488351232) (a : Int) (b : Bool) : Ev (fun k => impl_scan_number.f k s a b) ((curVar s a b).1, s, (curVar s a b).2.1, (curVar s a b).2.2) := by
  simp only [impl_scan_number.f]
  refine Ev.bind (impl_ReadVar_ev s hs a) ?_
  unfold curVar
  cases b with
  | true => simp only [if_true]; exact Ev.now _
  | false =>
    by_cases h : (pReadVar s a).2.2 = true
    · simp only [Bool.false_eq_true, if_false, h, if_true]; exact Ev.now _
    · simp only [Bool.false_eq_true, if_false, h]; exact Ev.now _
theorem impl_scan_one_ev (s : ByteArray) (hs : s.size ≤ 140737488351232) (a : Int) (b : Bool) (ha : curOk s a) : Ev (fun _ => impl_scan_one.f s a b) ((curOne s a b).1, s, (curOne s a b).2.1, (curOne s a b).2.2) := by
  unfold curOk at ha
  apply ev_const
  unfold curOne
  cases b with
  | true => simp only [impl_scan_one.f, if_true]
  | false =>
    by_cases h : a ≥ (s.size : Int)
    · simp only [impl_scan_one.f, Bool.false_eq_true, if_false, h, if_true]
    · have e1 : wrap64 (a + 1) = a + 1 := w64 (by omega) (by omega)
      have e2 : wrap64 (a + 1 - 1) = a := by rw [show a + 1 - 1 = a by omega]; exact w64 (by omega) (by omega)
      have hr := bt_range s a
      have e3 : wrap64 (bt s a) = bt s a := w64 (by omega) (by omega)
      have k1 : a < (s.size : Int) := by omega
      simp only [impl_scan_one.f, Bool.false_eq_true, if_false, h, e1, e2, ha.1, k1, if_true, e3]
theorem impl_scan_rest_ev (s : ByteArray) (a : Int) (b : Bool) (ha : curOk s a) : Ev (fun _ => impl_scan_rest.f s a b) (if b = true then (⟨#[]⟩ : ByteArray) else s.extract a.toNat s.size, s, if b = true then a else (s.size : Int), b) := by
  apply ev_const
  cases b with
  | true => simp only [impl_scan_rest.f, if_true]
  | false => simp only [impl_scan_rest.f, Bool.false_eq_true, if_false, ha.1, ha.2, if_true]
theorem impl_scan_done_ev (s : ByteArray) (a : Int) (b : Bool) : Ev (fun _ => impl_scan_done.f s a b) (!b && (a == (s.size : Int)), s, a, b) := by
  apply ev_const
  cases b <;> simp [impl_scan_done.f]

theorem impl_isNode_ev (x : Int) : Ev (fun _ => impl_isNode.f x) (decide (1 ≤ x ∧ x ≤ 4)) := by
  simp only [impl_isNode.f]
  exact Ev.bind (impl_within_ev _ _ _) (Ev.now _)
theorem impl_nodesOk_l0 (l : List Int) (hl : l.length ≤ 35184372088832) : ∀ (d : Nat) (i : Int), 0 ≤ i → i + d = l.length →
    Ev (fun k => impl_nodesOk.l0 k l l (l.length : Int) i) (rise 1 4 (prev l i) (l.drop i.toNat)) := by
  intro d
  induction d with
  | zero =>
    intro i h0 h
    apply ev_succ
    have c : ¬ i < (l.length : Int) := by omega
    simp only [impl_nodesOk.l0, c, if_false]
    apply ev_some
    rw [List.drop_of_length_le (by omega)]; simp [rise]
  | succ d ih =>
    intro i h0 h
    apply ev_succ
    have c : i < (l.length : Int) := by omega
    have e5 : wrap64 (i + 1) = i + 1 := w64 (by omega) (by omega)
    have e6 : wrap64 (i - 1) = i - 1 := w64 (by omega) (by omega)
    simp only [impl_nodesOk.l0, c, h0, if_true, e5, e6]
    refine Ev.bind (impl_isNode_ev _) ?_
    have hh := ih (i + 1) (by omega) (by omega)
    have hp : prev l (i + 1) = some (rd l i) := by rw [prev, if_neg (by omega)]; congr 2; omega
    rw [hp] at hh
    rw [drop_rd l i h0 c]
    by_cases hb : 1 ≤ rd l i ∧ rd l i ≤ 4
    · simp only [hb, and_self, decide_true, if_true]
      by_cases hi : i > 0
      · have k1 : 0 ≤ i - 1 := by omega
        have k2 : i - 1 < (l.length : Int) := by omega
        simp only [hi, k1, k2, if_true]
        rw [prev, if_neg (by omega)]
        by_cases hq : rd l (i - 1) ≥ rd l i
        · simp only [hq, if_true]
          apply ev_some
          simp [rise, show ¬ rd l (i - 1) < rd l i by omega]
        · simp only [hq, if_false]
          simpa [rise, hb, show rd l (i - 1) < rd l i by omega] using hh
      · simp only [hi, if_false]
        rw [prev, if_pos (by omega)]
        simpa [rise, hb] using hh
    · simp only [hb, decide_false, Bool.false_eq_true, if_false]
      apply ev_some
      cases prev l i <;> simp [rise, hb]
theorem impl_nodesOk_ev (l : List Int) (hl : l.length ≤ 35184372088832) : Ev (fun k => impl_nodesOk.f k l) (rise 1 4 none l) := by
  simp only [impl_nodesOk.f]
  have := impl_nodesOk_l0 l hl l.length 0 (by omega) (by omega)
  simpa [prev] using this
theorem impl_ConfOk_ev (l : List Int) (hl : l.length ≤ 35184372088832) : Ev (fun k => impl_ConfOk.f k l) (pConfOk l) := by
  simp only [impl_ConfOk.f]
  by_cases h : (l.length : Int) > 0
  · simp only [h, if_true]
    rw [pConfOk, decide_eq_true (by omega), Bool.true_and]
    exact Ev.bind (impl_nodesOk_ev l hl) (Ev.now _)
  · simp only [h, if_false]
    rw [pConfOk, decide_eq_false (by omega), Bool.false_and]
    exact Ev.now _

theorem impl_ReadConf_ev (s : ByteArray) (hs : s.size ≤ 1048576) : Ev (fun k => impl_ReadConf.f k s) (pReadConf s) := by
  simp only [impl_ReadConf.f]
  have key := loop_up (fun k (x : List Int) i => impl_ReadConf.l0 k s x i) (s.size : Int) (pReadConf s) (fun x i => x = (bytesOf s).take i.toNat)
    (fun x hx => by
      rw [List.take_of_length_le (by rw [bytes_len]; omega)] at hx
      subst hx
      have c : ¬ (s.size : Int) < (s.size : Int) := by omega
      simp only [impl_ReadConf.l0, c, if_false]
      refine Ev.bind (impl_ConfOk_ev _ (by rw [bytes_len]; omega)) ?_
      by_cases h : pConfOk (bytesOf s) = true
      · simp only [h, if_true]
        rw [pReadConf_yes h]
        exact Ev.now _
      · simp only [h, if_false]
        rw [pReadConf_no h]
        exact Ev.now _)
    (fun x i h0 h1 hx ih => by
      have hxl : x.length ≤ s.size := by rw [hx, List.length_take, bytes_len]; omega
      have c3 : x.length < 17592186044416 := by omega
      have br := bt_range s i
      have e1 : wrap64 (bt s i) = bt s i := w64 (by omega) (by omega)
      have e2 : wrap64 (i + 1) = i + 1 := w64 (by omega) (by omega)
      simp only [impl_ReadConf.l0, h1, h0, c3, if_true, e1, e2]
      refine ih _ ?_
      rw [take_snoc_rd _ i h0 (by rw [bytes_len]; exact h1), hx, bt_rd]
      rfl)
  exact key s.size 0 [] (by omega) (by omega) (by simp)

theorem impl_isTerm_ev (x : Int) : Ev (fun _ => impl_isTerm.f x) (decide (0 ≤ x ∧ x ≤ 100000)) := by
  simp only [impl_isTerm.f]
  exact Ev.bind (impl_within_ev _ _ _) (Ev.now _)

theorem impl_EntryOk_ev (t kd : Int) (s : ByteArray) (hs : s.size ≤ 1048576) : Ev (fun k => impl_EntryOk.f k t kd s) (pEntryOk t kd s) := by
  simp only [impl_EntryOk.f]
  by_cases ht : 0 ≤ t ∧ t ≤ 100000
  · have hd : decide (0 ≤ t ∧ t ≤ 100000) = true := decide_eq_true ht
    by_cases c1 : kd = 1
    · simp only [c1, if_true]
      refine Ev.bind (impl_isTerm_ev t) ?_
      simp [pEntryOk, hd]
    · by_cases c2 : kd = 2
      · simp only [c2, if_true, show ¬ (2 : Int) = 1 by decide, if_false]
        refine Ev.bind (impl_ReadConf_ev s hs) ?_
        refine Ev.bind (impl_isTerm_ev t) ?_
        by_cases h : pConfOk (bytesOf s) = true
        · simp [pEntryOk, hd, pReadConf_yes h, h]
        · simp [pEntryOk, hd, pReadConf_no h, h]
      · by_cases c3 : kd = 3
        · simp only [c3, if_true, show ¬ (3 : Int) = 1 by decide, show ¬ (3 : Int) = 2 by decide, if_false]
          refine Ev.bind (impl_isTerm_ev t) ?_
          simp [pEntryOk, hd]
        · simp [pEntryOk, c1, c2, c3]
  · have hd : decide (0 ≤ t ∧ t ≤ 100000) = false := decide_eq_false ht
    have hp : pEntryOk t kd s = false := by rw [pEntryOk, hd, Bool.false_and]
    rw [hp]
    by_cases c1 : kd = 1
    · simp only [c1, if_true]
      refine Ev.bind (impl_isTerm_ev t) ?_
      simp [hd]
    · by_cases c2 : kd = 2
      · simp only [c2, if_true, show ¬ (2 : Int) = 1 by decide, if_false]
        refine Ev.bind (impl_ReadConf_ev s hs) ?_
        refine Ev.bind (impl_isTerm_ev t) ?_
        simp [hd]
      · by_cases c3 : kd = 3
        · simp only [c3, if_true, show ¬ (3 : Int) = 1 by decide, show ¬ (3 : Int) = 2 by decide, if_false]
          refine Ev.bind (impl_isTerm_ev t) ?_
          simp [hd]
        · simp [c1, c2, c3]

theorem impl_ReadEntry_ev (s : ByteArray) (hs : s.size ≤ 1048576) : Ev (fun k => impl_ReadEntry.f k s) (entP s) := by
  have hs' : s.size ≤ 140737488351232 := by omega
  have h0 : curOk s 0 := by unfold curOk; omega
  simp only [impl_ReadEntry.f]
  unfold entP
  simp only
  obtain ⟨c, a1, b1, e1⟩ : ∃ c a1 b1, curOne s 0 false = (c, a1, b1) := ⟨_, _, _, rfl⟩
  have k1 : curOk s a1 := by have h := curOne_ok (b := false) h0; rw [e1] at h; exact h
  have q1 := impl_scan_one_ev s hs' 0 false h0
  rw [e1] at q1 ⊢
  refine Ev.bind q1 ?_
  simp only
  obtain ⟨x, a2, b2, e2⟩ : ∃ c a1' b1', curVar s a1 b1 = (c, a1', b1') := ⟨_, _, _, rfl⟩
  have k2 : curOk s a2 := by have h := curVar_ok (b := b1) k1; rw [e2] at h; exact h
  have q2 := impl_scan_number_ev s hs' a1 b1
  rw [e2] at q2 ⊢
  refine Ev.bind q2 ?_
  simp only
  obtain ⟨t, a3, b3, e3⟩ : ∃ c a1' b1', curVar s a2 b2 = (c, a1', b1') := ⟨_, _, _, rfl⟩
  have k3 : curOk s a3 := by have h := curVar_ok (b := b2) k2; rw [e3] at h; exact h
  have q3 := impl_scan_number_ev s hs' a2 b2
  rw [e3] at q3 ⊢
  refine Ev.bind q3 ?_
  simp only
  obtain ⟨kd, a4, b4, e4⟩ : ∃ c a1' b1', curOne s a3 b3 = (c, a1', b1') := ⟨_, _, _, rfl⟩
  have k4 : curOk s a4 := by have h := curOne_ok (b := b3) k3; rw [e4] at h; exact h
  have q4 := impl_scan_one_ev s hs' a3 b3 k3
  rw [e4] at q4 ⊢
  refine Ev.bind q4 ?_
  simp only
  refine Ev.bind (impl_scan_rest_ev s a4 b4 k4) ?_
  simp only
  cases b4 with
  | true =>
    simp only [if_true]
    refine Ev.bind (impl_scan_done_ev s a4 true) ?_
    simp
  | false =>
    simp only [Bool.false_eq_true, if_false]
    refine Ev.bind (impl_scan_done_ev s (s.size : Int) false) ?_
    simp only [Bool.not_false, beq_self_eq_true, Bool.and_self, if_true]
    have hd : (s.extract a4.toNat s.size).size ≤ 1048576 := by rw [size_ext]; omega
    by_cases c69 : c = 69
    · simp only [c69, if_true, true_and]
      refine Ev.bind (impl_EntryOk_ev t kd _ hd) ?_
      by_cases ho : pEntryOk t kd (s.extract a4.toNat s.size) = true
      · simp only [ho, if_true, true_and]
        refine Ev.bind (impl_within_ev _ _ _) ?_
        by_cases hi : 1 ≤ x ∧ x ≤ 1000000
        · simp only [hi, and_self, decide_true, if_true]; exact Ev.now _
        · simp only [hi, decide_false, Bool.false_eq_true, if_false]; exact Ev.now _
      · simp only [ho, if_false, false_and, Bool.false_eq_true]; exact Ev.now _
    · simp only [c69, if_false, false_and]; exact Ev.now _

theorem spec_l01In_ev (a b c : Int) : Ev (fun _ => spec_l01In.f a b c) (decide (b ≤ a ∧ a ≤ c)) := by
  apply ev_const
  unfold spec_l01In.f
  by_cases h : a ≥ b
  · rw [if_pos h]; simp [show b ≤ a from h]
  · rw [if_neg h]; simp [show ¬ b ≤ a from h]

theorem spec_l01Var_l0 (n : Nat) : ∀ xs : List Int, xs.length + n < 140737488355328 → Ev (fun k => spec_l01Var.l0 k (n : Int) xs) (strOfNums (xs ++ varN n)) := by
  induction n using Nat.strongRecOn with
  | ind n ih =>
    intro xs h
    apply ev_succ
    have c2 : xs.length < 140737488355328 := by omega
    by_cases hn : n ≤ 127
    · have c1 : ¬ (n : Int) > 127 := by omega
      simp only [spec_l01Var.l0, c1, c2, if_true, if_false]
      apply ev_some
      rw [varN_small hn, show (n : Int) % 256 = n by omega]
    · have c1 : (n : Int) > 127 := by omega
      simp only [spec_l01Var.l0, c1, c2, if_true, var_div n (by omega), var_mod n]
      have := ih (n / 128) (by omega) (xs ++ [((n % 128 + 128 : Nat) : Int)]) (by simp; omega)
      rw [varN_big hn]
      simpa using this
theorem spec_l01Var_ev (n : Nat) (h : n < 140737488355328) : Ev (fun k => spec_l01Var.f k (n : Int)) (varB n) := by
  simp only [spec_l01Var.f]
  have := spec_l01Var_l0 n [] (by simpa using h)
  simpa [varB] using this

theorem spec_ReadVar_i5 (s : ByteArray) (hs : s.size ≤ 140737488351232) (at_ : Int) (h0 : 0 ≤ at_) (h1 : at_ ≤ s.size) (n sc : Int) (l : List Int) : Ev (fun k => spec_ReadVar.l0 k s at_ n sc (at_ + 5)) (rvOut (at_ + 5) (rvF 0 sc n false l)) := by
  apply ev_succ
  have e1 : wrap64 (at_ + 5) = at_ + 5 := w64 (by omega) (by omega)
  have e2 : decide (at_ + 5 < at_ + 5) = false := decide_eq_false (by omega)
  simp only [spec_ReadVar.l0, e1, e2, ite_self]
  apply ev_succ
  simp only [spec_ReadVar.j1, Bool.false_eq_true, if_false]
  exact Ev.now _
theorem spec_ReadVar_i4 (s : ByteArray) (hs : s.size ≤ 140737488351232) (at_ : Int) (h0 : 0 ≤ at_) (h1 : at_ ≤ s.size) (ds : List Int) (hl : ds.length = 4) (hd : ∀ d ∈ ds, 128 ≤ d ∧ d ≤ 255) (hv : valL ds < 268435456) (hp : ds = ((bytesOf s).drop at_.toNat).take 4) :
    Ev (fun k => spec_ReadVar.l0 k s at_ (valL ds : Int) 268435456 (at_ + 4)) (rvOut (at_ + 4) (rvF 1 268435456 (valL ds : Int) false ((bytesOf s).drop (at_ + 4).toNat))) := by
  apply ev_succ
  have e1 : wrap64 (at_ + 5) = at_ + 5 := w64 (by omega) (by omega)
  have e2 : decide (at_ + 4 < at_ + 5) = true := decide_eq_true (by omega)
  by_cases c : at_ + 4 < (s.size : Int)
  · simp only [spec_ReadVar.l0, c, if_true, e1, e2]
    apply ev_succ
    rw [drop_bt s (at_ + 4) (by omega) c]
    have br := bt_range s (at_ + 4)
    have e0 : 0 ≤ at_ + 4 := by omega
    have e7 : (at_ + 4 + 1).toNat = (at_ + 5).toNat := by omega
    rw [e7]
    have k3 : at_ + 4 + 1 = at_ + 5 := by omega
    have k4 : (268435456 : Int) * 128 = 34359738368 := by decide
    simp only [spec_ReadVar.j1, c, if_true, e0, h0]
    have hp' : ds ++ [bt s (at_ + 4)] = ((bytesOf s).drop at_.toNat).take 5 := by
      have h3 : ((bytesOf s).drop at_.toNat)[4]? = some (bt s (at_ + 4)) := by
        rw [List.getElem?_drop, bt_rd, List.getD_eq_getElem?_getD, show (at_ + 4).toNat = at_.toNat + 4 by omega, List.getElem?_eq_getElem (by rw [bytes_len]; omega)]
        rfl
      rw [List.take_add_one, ← hp, h3]
      rfl
    have hvs := valL_snoc ds (bt s (at_ + 4))
    rw [hl] at hvs
    have hx : bytesOf (s.extract at_.toNat (at_ + 4 + 1).toNat) = ds ++ [bt s (at_ + 4)] := by
      rw [bytes_ext, hp', show (at_ + 4 + 1).toNat - at_.toNat = 5 by omega]
    have hnext := fun (_ _ : True) => spec_ReadVar_i5 s hs at_ h0 h1 (valL (ds ++ [bt s (at_ + 4)]) : Int) 34359738368 ((bytesOf s).drop (at_ + 5).toNat)
    have hcan := canon ds (bt s (at_ + 4)) hd
    have hext : ∀ X : ByteArray, X = s.extract at_.toNat (at_ + 4 + 1).toNat ↔ bytesOf X = ds ++ [bt s (at_ + 4)] := fun X => ⟨fun h => by rw [h, hx], fun h => bytes_inj (by rw [h, hx])⟩
    generalize bt s (at_ + 4) = b at br hnext hvs hcan hext hp' ⊢
    have hval : ((valL (ds ++ [b]) : Nat) : Int) = (valL ds : Int) + b % 128 * 268435456 := by
      rw [hvs]; omega
    have hv' : valL (ds ++ [b]) < 34359738368 := by clear hnext hext hcan hp' hd hp; omega
    have e3 : wrap64 b = b := w64 (by omega) (by omega)
    have e4 : Int.tmod b 128 = b % 128 := Int.tmod_eq_emod_of_nonneg (by omega)
    have e5 : wrap64 (b % 128 * 268435456) = b % 128 * 268435456 := w64 (by omega) (by omega)
    have e6 : wrap64 ((valL (ds ++ [b]) : Nat) : Int) = ((valL (ds ++ [b]) : Nat) : Int) := w64 (by omega) (by omega)
    have e8 : wrap64 (at_ + 4 + 1) = at_ + 4 + 1 := w64 (by omega) (by omega)
    have e9 : wrap64 (268435456 * 128) = 34359738368 := wlit (by decide) (by decide) (by decide)
    have k1 : at_ ≤ at_ + 4 + 1 := by omega
    have k2 : at_ + 4 + 1 ≤ (s.size : Int) := by omega
    simp only [if_true, e3, e4, e5, e6, e8, e9, k1, k2, ← hval]
    by_cases hb : b < 128
    · have hb' : ¬ b > 127 := not_big hb
      by_cases hg : ((valL (ds ++ [b]) : Nat) : Int) > 1000000000
      · have hbad : (valL ds : Int) + b % 128 * 268435456 > 1000000000 := by rw [← hval]; exact hg
        rw [rvF_stop hb' (Or.inr hbad)]
        simp only [hb, hg, if_true]
        exact Ev.now _
      · simp only [hb, hg, if_true, if_false]
        refine Ev.bind (spec_l01Var_ev (valL (ds ++ [b])) (lt_big hg)) ?_
        simp only [toList_iff, hext, varB, bytes_str (varN_isB _), hcan br.1 (lt_128 hb)]
        have hgood : ¬ (valL ds : Int) + b % 128 * 268435456 > 1000000000 := by rw [← hval]; exact hg
        by_cases hz : ds = [] ∨ b ≠ 0
        · have hq : ¬ (false = false ∧ b = 0) := by rcases hz with rfl | hz; exact absurd hl (by simp); exact fun h => hz h.2
          rw [rvF_take hb' hq hgood, ← hval]
          simp only [if_pos hz]
          exact Ev.now _
        · rw [rvF_stop hb' (Or.inl ⟨rfl, Classical.byContradiction fun h => hz (Or.inr h)⟩)]
          simp only [if_neg hz]
          exact Ev.now _
    · have hb' : b > 127 := is_big hb
      rw [rvF_more hb', rvOut_map, ← hval]
      simp only [hb, if_false]
      have hh := hnext trivial trivial
      simpa only [k3, k4] using hh
  · simp only [spec_ReadVar.l0, c, if_false]
    apply ev_succ
    simp only [spec_ReadVar.j1, Bool.false_eq_true, if_false]
    rw [List.drop_of_length_le (by rw [bytes_len]; omega)]
    exact Ev.now _
theorem spec_ReadVar_i3 (s : ByteArray) (hs : s.size ≤ 140737488351232) (at_ : Int) (h0 : 0 ≤ at_) (h1 : at_ ≤ s.size) (ds : List Int) (hl : ds.length = 3) (hd : ∀ d ∈ ds, 128 ≤ d ∧ d ≤ 255) (hv : valL ds < 2097152) (hp : ds = ((bytesOf s).drop at_.toNat).take 3) :
    Ev (fun k => spec_ReadVar.l0 k s at_ (valL ds : Int) 2097152 (at_ + 3)) (rvOut (at_ + 3) (rvF 2 2097152 (valL ds : Int) false ((bytesOf s).drop (at_ + 3).toNat))) := by
  apply ev_succ
  have e1 : wrap64 (at_ + 5) = at_ + 5 := w64 (by omega) (by omega)
  have e2 : decide (at_ + 3 < at_ + 5) = true := decide_eq_true (by omega)
  by_cases c : at_ + 3 < (s.size : Int)
  · simp only [spec_ReadVar.l0, c, if_true, e1, e2]
    apply ev_succ
    rw [drop_bt s (at_ + 3) (by omega) c]
    have br := bt_range s (at_ + 3)
    have e0 : 0 ≤ at_ + 3 := by omega
    have e7 : (at_ + 3 + 1).toNat = (at_ + 4).toNat := by omega
    rw [e7]
    have k3 : at_ + 3 + 1 = at_ + 4 := by omega
    have k4 : (2097152 : Int) * 128 = 268435456 := by decide
    simp only [spec_ReadVar.j1, c, if_true, e0, h0]
    have hp' : ds ++ [bt s (at_ + 3)] = ((bytesOf s).drop at_.toNat).take 4 := by
      have h3 : ((bytesOf s).drop at_.toNat)[3]? = some (bt s (at_ + 3)) := by
        rw [List.getElem?_drop, bt_rd, List.getD_eq_getElem?_getD, show (at_ + 3).toNat = at_.toNat + 3 by omega, List.getElem?_eq_getElem (by rw [bytes_len]; omega)]
        rfl
      rw [List.take_add_one, ← hp, h3]
      rfl
    have hvs := valL_snoc ds (bt s (at_ + 3))
    rw [hl] at hvs
    have hx : bytesOf (s.extract at_.toNat (at_ + 3 + 1).toNat) = ds ++ [bt s (at_ + 3)] := by
      rw [bytes_ext, hp', show (at_ + 3 + 1).toNat - at_.toNat = 4 by omega]
    have hnext := fun hv' hd' => spec_ReadVar_i4 s hs at_ h0 h1 (ds ++ [bt s (at_ + 3)]) (by simp [hl]) hd' hv' hp'
    have hcan := canon ds (bt s (at_ + 3)) hd
    have hext : ∀ X : ByteArray, X = s.extract at_.toNat (at_ + 3 + 1).toNat ↔ bytesOf X = ds ++ [bt s (at_ + 3)] := fun X => ⟨fun h => by rw [h, hx], fun h => bytes_inj (by rw [h, hx])⟩
    generalize bt s (at_ + 3) = b at br hnext hvs hcan hext hp' ⊢
    have hval : ((valL (ds ++ [b]) : Nat) : Int) = (valL ds : Int) + b % 128 * 2097152 := by
      rw [hvs]; omega
    have hv' : valL (ds ++ [b]) < 268435456 := by clear hnext hext hcan hp' hd hp; omega
    have e3 : wrap64 b = b := w64 (by omega) (by omega)
    have e4 : Int.tmod b 128 = b % 128 := Int.tmod_eq_emod_of_nonneg (by omega)
    have e5 : wrap64 (b % 128 * 2097152) = b % 128 * 2097152 := w64 (by omega) (by omega)
    have e6 : wrap64 ((valL (ds ++ [b]) : Nat) : Int) = ((valL (ds ++ [b]) : Nat) : Int) := w64 (by omega) (by omega)
    have e8 : wrap64 (at_ + 3 + 1) = at_ + 3 + 1 := w64 (by omega) (by omega)
    have e9 : wrap64 (2097152 * 128) = 268435456 := wlit (by decide) (by decide) (by decide)
    have k1 : at_ ≤ at_ + 3 + 1 := by omega
    have k2 : at_ + 3 + 1 ≤ (s.size : Int) := by omega
    simp only [if_true, e3, e4, e5, e6, e8, e9, k1, k2, ← hval]
    by_cases hb : b < 128
    · have hb' : ¬ b > 127 := not_big hb
      by_cases hg : ((valL (ds ++ [b]) : Nat) : Int) > 1000000000
      · have hbad : (valL ds : Int) + b % 128 * 2097152 > 1000000000 := by rw [← hval]; exact hg
        rw [rvF_stop hb' (Or.inr hbad)]
        simp only [hb, hg, if_true]
        exact Ev.now _
      · simp only [hb, hg, if_true, if_false]
        refine Ev.bind (spec_l01Var_ev (valL (ds ++ [b])) (lt_big hg)) ?_
        simp only [toList_iff, hext, varB, bytes_str (varN_isB _), hcan br.1 (lt_128 hb)]
        have hgood : ¬ (valL ds : Int) + b % 128 * 2097152 > 1000000000 := by rw [← hval]; exact hg
        by_cases hz : ds = [] ∨ b ≠ 0
        · have hq : ¬ (false = false ∧ b = 0) := by rcases hz with rfl | hz; exact absurd hl (by simp); exact fun h => hz h.2
          rw [rvF_take hb' hq hgood, ← hval]
          simp only [if_pos hz]
          exact Ev.now _
        · rw [rvF_stop hb' (Or.inl ⟨rfl, Classical.byContradiction fun h => hz (Or.inr h)⟩)]
          simp only [if_neg hz]
          exact Ev.now _
    · have hb' : b > 127 := is_big hb
      rw [rvF_more hb', rvOut_map, ← hval]
      simp only [hb, if_false]
      have hh := hnext hv' (big_app hd hb br.2)
      simpa only [k3, k4] using hh
  · simp only [spec_ReadVar.l0, c, if_false]
    apply ev_succ
    simp only [spec_ReadVar.j1, Bool.false_eq_true, if_false]
    rw [List.drop_of_length_le (by rw [bytes_len]; omega)]
    exact Ev.now _
theorem spec_ReadVar_i2 (s : ByteArray) (hs : s.size ≤ 140737488351232) (at_ : Int) (h0 : 0 ≤ at_) (h1 : at_ ≤ s.size) (ds : List Int) (hl : ds.length = 2) (hd : ∀ d ∈ ds, 128 ≤ d ∧ d ≤ 255) (hv : valL ds < 16384) (hp : ds = ((bytesOf s).drop at_.toNat).take 2) :
    Ev (fun k => spec_ReadVar.l0 k s at_ (valL ds : Int) 16384 (at_ + 2)) (rvOut (at_ + 2) (rvF 3 16384 (valL ds : Int) false ((bytesOf s).drop (at_ + 2).toNat))) := by
  apply ev_succ
  have e1 : wrap64 (at_ + 5) = at_ + 5 := w64 (by omega) (by omega)
  have e2 : decide (at_ + 2 < at_ + 5) = true := decide_eq_true (by omega)
  by_cases c : at_ + 2 < (s.size : Int)
  · simp only [spec_ReadVar.l0, c, if_true, e1, e2]
    apply ev_succ
    rw [drop_bt s (at_ + 2) (by omega) c]
    have br := bt_range s (at_ + 2)
    have e0 : 0 ≤ at_ + 2 := by omega
    have e7 : (at_ + 2 + 1).toNat = (at_ + 3).toNat := by omega
    rw [e7]
    have k3 : at_ + 2 + 1 = at_ + 3 := by omega
    have k4 : (16384 : Int) * 128 = 2097152 := by decide
    simp only [spec_ReadVar.j1, c, if_true, e0, h0]
    have hp' : ds ++ [bt s (at_ + 2)] = ((bytesOf s).drop at_.toNat).take 3 := by
      have h3 : ((bytesOf s).drop at_.toNat)[2]? = some (bt s (at_ + 2)) := by
        rw [List.getElem?_drop, bt_rd, List.getD_eq_getElem?_getD, show (at_ + 2).toNat = at_.toNat + 2 by omega, List.getElem?_eq_getElem (by rw [bytes_len]; omega)]
        rfl
      rw [List.take_add_one, ← hp, h3]
      rfl
    have hvs := valL_snoc ds (bt s (at_ + 2))
    rw [hl] at hvs
    have hx : bytesOf (s.extract at_.toNat (at_ + 2 + 1).toNat) = ds ++ [bt s (at_ + 2)] := by
      rw [bytes_ext, hp', show (at_ + 2 + 1).toNat - at_.toNat = 3 by omega]
    have hnext := fun hv' hd' => spec_ReadVar_i3 s hs at_ h0 h1 (ds ++ [bt s (at_ + 2)]) (by simp [hl]) hd' hv' hp'
    have hcan := canon ds (bt s (at_ + 2)) hd
    have hext : ∀ X : ByteArray, X = s.extract at_.toNat (at_ + 2 + 1).toNat ↔ bytesOf X = ds ++ [bt s (at_ + 2)] := fun X => ⟨fun h => by rw [h, hx], fun h => bytes_inj (by rw [h, hx])⟩
    generalize bt s (at_ + 2) = b at br hnext hvs hcan hext hp' ⊢
    have hval : ((valL (ds ++ [b]) : Nat) : Int) = (valL ds : Int) + b % 128 * 16384 := by
      rw [hvs]; omega
    have hv' : valL (ds ++ [b]) < 2097152 := by clear hnext hext hcan hp' hd hp; omega
    have e3 : wrap64 b = b := w64 (by omega) (by omega)
    have e4 : Int.tmod b 128 = b % 128 := Int.tmod_eq_emod_of_nonneg (by omega)
    have e5 : wrap64 (b % 128 * 16384) = b % 128 * 16384 := w64 (by omega) (by omega)
    have e6 : wrap64 ((valL (ds ++ [b]) : Nat) : Int) = ((valL (ds ++ [b]) : Nat) : Int) := w64 (by omega) (by omega)
    have e8 : wrap64 (at_ + 2 + 1) = at_ + 2 + 1 := w64 (by omega) (by omega)
    have e9 : wrap64 (16384 * 128) = 2097152 := wlit (by decide) (by decide) (by decide)
    have k1 : at_ ≤ at_ + 2 + 1 := by omega
    have k2 : at_ + 2 + 1 ≤ (s.size : Int) := by omega
    simp only [if_true, e3, e4, e5, e6, e8, e9, k1, k2, ← hval]
    by_cases hb : b < 128
    · have hb' : ¬ b > 127 := not_big hb
      by_cases hg : ((valL (ds ++ [b]) : Nat) : Int) > 1000000000
      · have hbad : (valL ds : Int) + b % 128 * 16384 > 1000000000 := by rw [← hval]; exact hg
        rw [rvF_stop hb' (Or.inr hbad)]
        simp only [hb, hg, if_true]
        exact Ev.now _
      · simp only [hb, hg, if_true, if_false]
        refine Ev.bind (spec_l01Var_ev (valL (ds ++ [b])) (lt_big hg)) ?_
        simp only [toList_iff, hext, varB, bytes_str (varN_isB _), hcan br.1 (lt_128 hb)]
        have hgood : ¬ (valL ds : Int) + b % 128 * 16384 > 1000000000 := by rw [← hval]; exact hg
        by_cases hz : ds = [] ∨ b ≠ 0
        · have hq : ¬ (false = false ∧ b = 0) := by rcases hz with rfl | hz; exact absurd hl (by simp); exact fun h => hz h.2
          rw [rvF_take hb' hq hgood, ← hval]
          simp only [if_pos hz]
          exact Ev.now _
        · rw [rvF_stop hb' (Or.inl ⟨rfl, Classical.byContradiction fun h => hz (Or.inr h)⟩)]
          simp only [if_neg hz]
          exact Ev.now _
    · have hb' : b > 127 := is_big hb
      rw [rvF_more hb', rvOut_map, ← hval]
      simp only [hb, if_false]
      have hh := hnext hv' (big_app hd hb br.2)
      simpa only [k3, k4] using hh
  · simp only [spec_ReadVar.l0, c, if_false]
    apply ev_succ
    simp only [spec_ReadVar.j1, Bool.false_eq_true, if_false]
    rw [List.drop_of_length_le (by rw [bytes_len]; omega)]
    exact Ev.now _
theorem spec_ReadVar_i1 (s : ByteArray) (hs : s.size ≤ 140737488351232) (at_ : Int) (h0 : 0 ≤ at_) (h1 : at_ ≤ s.size) (ds : List Int) (hl : ds.length = 1) (hd : ∀ d ∈ ds, 128 ≤ d ∧ d ≤ 255) (hv : valL ds < 128) (hp : ds = ((bytesOf s).drop at_.toNat).take 1) :
    Ev (fun k => spec_ReadVar.l0 k s at_ (valL ds : Int) 128 (at_ + 1)) (rvOut (at_ + 1) (rvF 4 128 (valL ds : Int) false ((bytesOf s).drop (at_ + 1).toNat))) := by
  apply ev_succ
  have e1 : wrap64 (at_ + 5) = at_ + 5 := w64 (by omega) (by omega)
  have e2 : decide (at_ + 1 < at_ + 5) = true := decide_eq_true (by omega)
  by_cases c : at_ + 1 < (s.size : Int)
  · simp only [spec_ReadVar.l0, c, if_true, e1, e2]
    apply ev_succ
    rw [drop_bt s (at_ + 1) (by omega) c]
    have br := bt_range s (at_ + 1)
    have e0 : 0 ≤ at_ + 1 := by omega
    have e7 : (at_ + 1 + 1).toNat = (at_ + 2).toNat := by omega
    rw [e7]
    have k3 : at_ + 1 + 1 = at_ + 2 := by omega
    have k4 : (128 : Int) * 128 = 16384 := by decide
    simp only [spec_ReadVar.j1, c, if_true, e0, h0]
    have hp' : ds ++ [bt s (at_ + 1)] = ((bytesOf s).drop at_.toNat).take 2 := by
      have h3 : ((bytesOf s).drop at_.toNat)[1]? = some (bt s (at_ + 1)) := by
        rw [List.getElem?_drop, bt_rd, List.getD_eq_getElem?_getD, show (at_ + 1).toNat = at_.toNat + 1 by omega, List.getElem?_eq_getElem (by rw [bytes_len]; omega)]
        rfl
      rw [List.take_add_one, ← hp, h3]
      rfl
    have hvs := valL_snoc ds (bt s (at_ + 1))
    rw [hl] at hvs
    have hx : bytesOf (s.extract at_.toNat (at_ + 1 + 1).toNat) = ds ++ [bt s (at_ + 1)] := by
      rw [bytes_ext, hp', show (at_ + 1 + 1).toNat - at_.toNat = 2 by omega]
    have hnext := fun hv' hd' => spec_ReadVar_i2 s hs at_ h0 h1 (ds ++ [bt s (at_ + 1)]) (by simp [hl]) hd' hv' hp'
    have hcan := canon ds (bt s (at_ + 1)) hd
    have hext : ∀ X : ByteArray, X = s.extract at_.toNat (at_ + 1 + 1).toNat ↔ bytesOf X = ds ++ [bt s (at_ + 1)] := fun X => ⟨fun h => by rw [h, hx], fun h => bytes_inj (by rw [h, hx])⟩
    generalize bt s (at_ + 1) = b at br hnext hvs hcan hext hp' ⊢
    have hval : ((valL (ds ++ [b]) : Nat) : Int) = (valL ds : Int) + b % 128 * 128 := by
      rw [hvs]; omega
    have hv' : valL (ds ++ [b]) < 16384 := by clear hnext hext hcan hp' hd hp; omega
    have e3 : wrap64 b = b := w64 (by omega) (by omega)
    have e4 : Int.tmod b 128 = b % 128 := Int.tmod_eq_emod_of_nonneg (by omega)
    have e5 : wrap64 (b % 128 * 128) = b % 128 * 128 := w64 (by omega) (by omega)
    have e6 : wrap64 ((valL (ds ++ [b]) : Nat) : Int) = ((valL (ds ++ [b]) : Nat) : Int) := w64 (by omega) (by omega)
    have e8 : wrap64 (at_ + 1 + 1) = at_ + 1 + 1 := w64 (by omega) (by omega)
    have e9 : wrap64 (128 * 128) = 16384 := wlit (by decide) (by decide) (by decide)
    have k1 : at_ ≤ at_ + 1 + 1 := by omega
    have k2 : at_ + 1 + 1 ≤ (s.size : Int) := by omega
    simp only [if_true, e3, e4, e5, e6, e8, e9, k1, k2, ← hval]
    by_cases hb : b < 128
    · have hb' : ¬ b > 127 := not_big hb
      by_cases hg : ((valL (ds ++ [b]) : Nat) : Int) > 1000000000
      · have hbad : (valL ds : Int) + b % 128 * 128 > 1000000000 := by rw [← hval]; exact hg
        rw [rvF_stop hb' (Or.inr hbad)]
        simp only [hb, hg, if_true]
        exact Ev.now _
      · simp only [hb, hg, if_true, if_false]
        refine Ev.bind (spec_l01Var_ev (valL (ds ++ [b])) (lt_big hg)) ?_
        simp only [toList_iff, hext, varB, bytes_str (varN_isB _), hcan br.1 (lt_128 hb)]
        have hgood : ¬ (valL ds : Int) + b % 128 * 128 > 1000000000 := by rw [← hval]; exact hg
        by_cases hz : ds = [] ∨ b ≠ 0
        · have hq : ¬ (false = false ∧ b = 0) := by rcases hz with rfl | hz; exact absurd hl (by simp); exact fun h => hz h.2
          rw [rvF_take hb' hq hgood, ← hval]
          simp only [if_pos hz]
          exact Ev.now _
        · rw [rvF_stop hb' (Or.inl ⟨rfl, Classical.byContradiction fun h => hz (Or.inr h)⟩)]
          simp only [if_neg hz]
          exact Ev.now _
    · have hb' : b > 127 := is_big hb
      rw [rvF_more hb', rvOut_map, ← hval]
      simp only [hb, if_false]
      have hh := hnext hv' (big_app hd hb br.2)
      simpa only [k3, k4] using hh
  · simp only [spec_ReadVar.l0, c, if_false]
    apply ev_succ
    simp only [spec_ReadVar.j1, Bool.false_eq_true, if_false]
    rw [List.drop_of_length_le (by rw [bytes_len]; omega)]
    exact Ev.now _
theorem spec_ReadVar_i0 (s : ByteArray) (hs : s.size ≤ 140737488351232) (at_ : Int) (h0 : 0 ≤ at_) (h1 : at_ ≤ s.size) (ds : List Int) (hl : ds.length = 0) (hd : ∀ d ∈ ds, 128 ≤ d ∧ d ≤ 255) (hv : valL ds < 1) (hp : ds = ((bytesOf s).drop at_.toNat).take 0) :
    Ev (fun k => spec_ReadVar.l0 k s at_ (valL ds : Int) 1 (at_ + 0)) (rvOut (at_ + 0) (rvF 5 1 (valL ds : Int) true ((bytesOf s).drop (at_ + 0).toNat))) := by
  apply ev_succ
  have e1 : wrap64 (at_ + 5) = at_ + 5 := w64 (by omega) (by omega)
  have e2 : decide (at_ + 0 < at_ + 5) = true := decide_eq_true (by omega)
  by_cases c : at_ + 0 < (s.size : Int)
  · simp only [spec_ReadVar.l0, c, if_true, e1, e2]
    apply ev_succ
    rw [drop_bt s (at_ + 0) (by omega) c]
    have br := bt_range s (at_ + 0)
    have e0 : 0 ≤ at_ + 0 := by omega
    have e7 : (at_ + 0 + 1).toNat = (at_ + 1).toNat := by omega
    rw [e7]
    have k3 : at_ + 0 + 1 = at_ + 1 := by omega
    have k4 : (1 : Int) * 128 = 128 := by decide
    simp only [spec_ReadVar.j1, c, if_true, e0, h0]
    have hp' : ds ++ [bt s (at_ + 0)] = ((bytesOf s).drop at_.toNat).take 1 := by
      have h3 : ((bytesOf s).drop at_.toNat)[0]? = some (bt s (at_ + 0)) := by
        rw [List.getElem?_drop, bt_rd, List.getD_eq_getElem?_getD, show (at_ + 0).toNat = at_.toNat + 0 by omega, List.getElem?_eq_getElem (by rw [bytes_len]; omega)]
        rfl
      rw [List.take_add_one, ← hp, h3]
      rfl
    have hvs := valL_snoc ds (bt s (at_ + 0))
    rw [hl] at hvs
    have hx : bytesOf (s.extract at_.toNat (at_ + 0 + 1).toNat) = ds ++ [bt s (at_ + 0)] := by
      rw [bytes_ext, hp', show (at_ + 0 + 1).toNat - at_.toNat = 1 by omega]
    have hnext := fun hv' hd' => spec_ReadVar_i1 s hs at_ h0 h1 (ds ++ [bt s (at_ + 0)]) (by simp [hl]) hd' hv' hp'
    have hcan := canon ds (bt s (at_ + 0)) hd
    have hext : ∀ X : ByteArray, X = s.extract at_.toNat (at_ + 0 + 1).toNat ↔ bytesOf X = ds ++ [bt s (at_ + 0)] := fun X => ⟨fun h => by rw [h, hx], fun h => bytes_inj (by rw [h, hx])⟩
    generalize bt s (at_ + 0) = b at br hnext hvs hcan hext hp' ⊢
    have hval : ((valL (ds ++ [b]) : Nat) : Int) = (valL ds : Int) + b % 128 * 1 := by
      rw [hvs]; omega
    have hv' : valL (ds ++ [b]) < 128 := by clear hnext hext hcan hp' hd hp; omega
    have e3 : wrap64 b = b := w64 (by omega) (by omega)
    have e4 : Int.tmod b 128 = b % 128 := Int.tmod_eq_emod_of_nonneg (by omega)
    have e5 : wrap64 (b % 128 * 1) = b % 128 * 1 := w64 (by omega) (by omega)
    have e6 : wrap64 ((valL (ds ++ [b]) : Nat) : Int) = ((valL (ds ++ [b]) : Nat) : Int) := w64 (by omega) (by omega)
    have e8 : wrap64 (at_ + 0 + 1) = at_ + 0 + 1 := w64 (by omega) (by omega)
    have e9 : wrap64 (1 * 128) = 128 := wlit (by decide) (by decide) (by decide)
    have k1 : at_ ≤ at_ + 0 + 1 := by omega
    have k2 : at_ + 0 + 1 ≤ (s.size : Int) := by omega
    simp only [if_true, e3, e4, e5, e6, e8, e9, k1, k2, ← hval]
    by_cases hb : b < 128
    · have hb' : ¬ b > 127 := not_big hb
      by_cases hg : ((valL (ds ++ [b]) : Nat) : Int) > 1000000000
      · have hbad : (valL ds : Int) + b % 128 * 1 > 1000000000 := by rw [← hval]; exact hg
        rw [rvF_stop hb' (Or.inr hbad)]
        simp only [hb, hg, if_true]
        exact Ev.now _
      · simp only [hb, hg, if_true, if_false]
        refine Ev.bind (spec_l01Var_ev (valL (ds ++ [b])) (lt_big hg)) ?_
        simp only [toList_iff, hext, varB, bytes_str (varN_isB _), hcan br.1 (lt_128 hb)]
        have hgood : ¬ (valL ds : Int) + b % 128 * 1 > 1000000000 := by rw [← hval]; exact hg
        by_cases hz : ds = [] ∨ b ≠ 0
        · have hq : ¬ (true = false ∧ b = 0) := by simp
          rw [rvF_take hb' hq hgood, ← hval]
          simp only [if_pos hz]
          exact Ev.now _
        · exact absurd (Or.inl (List.eq_nil_of_length_eq_zero hl)) hz

    · have hb' : b > 127 := is_big hb
      rw [rvF_more hb', rvOut_map, ← hval]
      simp only [hb, if_false]
      have hh := hnext hv' (big_app hd hb br.2)
      simpa only [k3, k4] using hh
  · simp only [spec_ReadVar.l0, c, if_false]
    apply ev_succ
    simp only [spec_ReadVar.j1, Bool.false_eq_true, if_false]
    rw [List.drop_of_length_le (by rw [bytes_len]; omega)]
    exact Ev.now _
theorem spec_ReadVar_ev (s : ByteArray) (hs : s.size ≤ 140737488351232) (at_ : Int) : Ev (fun k => spec_ReadVar.f k s at_) (pReadVar s at_) := by
  simp only [spec_ReadVar.f]
  refine Ev.bind (spec_l01In_ev _ _ _) ?_
  by_cases h : 0 ≤ at_ ∧ at_ ≤ (s.size : Int)
  · simp only [h, and_self, decide_true, if_true]
    rw [pReadVar_in h]
    have hh := spec_ReadVar_i0 s hs at_ h.1 h.2 [] rfl (by simp) (by decide) (by simp)
    simpa only [Int.add_zero, valL, Int.natCast_zero] using hh
  · simp only [h, decide_false, Bool.false_eq_true, if_false]
    rw [pReadVar_out h]
    exact Ev.now _

theorem spec_l05Var_ev (s : ByteArray) (hs : s.size ≤ 140737488351232) (a : Int) (b : Bool) : Ev (fun k => spec_l05Var.f k s a b) ((curVar s a b).1, s, (curVar s a b).2.1, (curVar s a b).2.2) := by
  simp only [spec_l05Var.f]
  refine Ev.bind (spec_ReadVar_ev s hs a) ?_
  unfold curVar
  cases b with
  | true => simp only [if_true]; exact Ev.now _
  | false =>
    by_cases h : (pReadVar s a).2.2 = true
    · simp only [Bool.false_eq_true, if_false, h, if_true]; exact Ev.now _
    · simp only [Bool.false_eq_true, if_false, h]; exact Ev.now _
theorem spec_l05Take_ev (s : ByteArray) (hs : s.size ≤ 140737488351232) (a : Int) (b : Bool) (n : Int) (ha : curOk s a) (hn : 0 ≤ n ∧ n ≤ 1000000000) : Ev (fun _ => spec_l05Take.f s a b n) ((curTake s a b n).1, s, (curTake s a b n).2.1, (curTake s a b n).2.2) := by
  unfold curOk at ha
  apply ev_const
  unfold curTake
  cases b with
  | true => simp only [spec_l05Take.f, if_true]
  | false =>
    have e0 : wrap64 ((s.size : Int) - a) = s.size - a := w64 (by omega) (by omega)
    by_cases h : n > (s.size : Int) - a
    · simp only [spec_l05Take.f, Bool.false_eq_true, if_false, e0, h, if_true]
    · have e1 : wrap64 (a + n) = a + n := w64 (by omega) (by omega)
      have e2 : wrap64 (a + n - n) = a := by rw [show a + n - n = a by omega]; exact w64 (by omega) (by omega)
      have k1 : a ≤ a + n := by omega
      have k2 : a + n ≤ (s.size : Int) := by omega
      simp only [spec_l05Take.f, Bool.false_eq_true, if_false, e0, h, e1, e2, ha.1, k1, k2, if_true]

theorem spec_l05Rise_l0 (l : List Int) (lo up : Int) (hl : l.length ≤ 35184372088832) : ∀ (d : Nat) (i : Int), 0 ≤ i → i + d = l.length →
    Ev (fun k => spec_l05Rise.l0 k l lo up i) (rise lo up (prev l i) (l.drop i.toNat)) := by
  intro d
  induction d with
  | zero =>
    intro i h0 h
    apply ev_succ
    have c : ¬ i < (l.length : Int) := by omega
    simp only [spec_l05Rise.l0, c, if_false]
    apply ev_some
    rw [List.drop_of_length_le (by omega)]; simp [rise]
  | succ d ih =>
    intro i h0 h
    apply ev_succ
    have c : i < (l.length : Int) := by omega
    have e5 : wrap64 (i + 1) = i + 1 := w64 (by omega) (by omega)
    have e6 : wrap64 (i - 1) = i - 1 := w64 (by omega) (by omega)
    simp only [spec_l05Rise.l0, c, h0, if_true, e5, e6]
    refine Ev.bind (spec_l01In_ev _ _ _) ?_
    have hh := ih (i + 1) (by omega) (by omega)
    have hp : prev l (i + 1) = some (rd l i) := by rw [prev, if_neg (by omega)]; congr 2; omega
    rw [hp] at hh
    rw [drop_rd l i h0 c]
    by_cases hb : lo ≤ rd l i ∧ rd l i ≤ up
    · simp only [hb, and_self, decide_true, if_true]
      by_cases hi : i > 0
      · have k1 : 0 ≤ i - 1 := by omega
        have k2 : i - 1 < (l.length : Int) := by omega
        simp only [hi, k1, k2, if_true]
        rw [prev, if_neg (by omega)]
        by_cases hq : rd l (i - 1) ≥ rd l i
        · simp only [hq, if_true]
          apply ev_some
          simp [rise, show ¬ rd l (i - 1) < rd l i by omega]
        · simp only [hq, if_false]
          simpa [rise, hb, show rd l (i - 1) < rd l i by omega] using hh
      · simp only [hi, if_false]
        rw [prev, if_pos (by omega)]
        simpa [rise, hb] using hh
    · simp only [hb, decide_false, Bool.false_eq_true, if_false]
      apply ev_some
      cases prev l i <;> simp [rise, hb]
theorem spec_l05Rise_ev (l : List Int) (lo up : Int) (hl : l.length ≤ 35184372088832) : Ev (fun k => spec_l05Rise.f k l lo up) (rise lo up none l) := by
  simp only [spec_l05Rise.f]
  have := spec_l05Rise_l0 l lo up hl l.length 0 (by omega) (by omega)
  simpa [prev] using this
theorem spec_ConfOk_ev (l : List Int) (hl : l.length ≤ 35184372088832) : Ev (fun k => spec_ConfOk.f k l) (pConfOk l) := by
  simp only [spec_ConfOk.f]
  refine Ev.bind (spec_l01In_ev _ _ _) ?_
  by_cases h : 1 ≤ (l.length : Int) ∧ (l.length : Int) ≤ 4
  · simp only [h, and_self, decide_true, if_true]
    rw [pConfOk, decide_eq_true (by omega), Bool.true_and]
    exact Ev.bind (spec_l05Rise_ev l 1 4 hl) (Ev.now _)
  · simp only [h, decide_false, Bool.false_eq_true, if_false]
    apply ev_some
    cases hc : pConfOk l with
    | false => rfl
    | true => have := confOk_len l hc; omega

theorem spec_ReadConf_end (s : ByteArray) (hs : s.size ≤ 1048576) (x : List Int) (hx : x = (bytesOf s).take 5) :
    Ev (fun k => if (x.length : Int) = (s.size : Int) then ((spec_ConfOk.f k x).bind fun t => (if t = true then (some (x, true)) else (some ((([] : List Int)), false)))) else (some ((([] : List Int)), false))) (pReadConf s) := by
  have hxl : x.length = min 5 s.size := by rw [hx, List.length_take, bytes_len]
  by_cases h5 : s.size ≤ 5
  · rw [List.take_of_length_le (by rw [bytes_len]; omega)] at hx
    have c : (x.length : Int) = (s.size : Int) := by omega
    simp only [c, if_true]
    subst hx
    refine Ev.bind (spec_ConfOk_ev _ (by rw [bytes_len]; omega)) ?_
    by_cases h : pConfOk (bytesOf s) = true
    · simp only [h, if_true]
      rw [pReadConf_yes h]
      exact Ev.now _
    · simp only [h, if_false]
      rw [pReadConf_no h]
      exact Ev.now _
  · have c : ¬ (x.length : Int) = (s.size : Int) := by omega
    simp only [c, if_false]
    have hn : ¬ pConfOk (bytesOf s) = true := by
      intro h
      have := confOk_len _ h
      rw [bytes_len] at this
      omega
    rw [pReadConf_no hn]
    exact Ev.now _
theorem spec_ReadConf_ev (s : ByteArray) (hs : s.size ≤ 1048576) : Ev (fun k => spec_ReadConf.f k s) (pReadConf s) := by
  simp only [spec_ReadConf.f]
  have key := loop_up (fun k (x : List Int) i => spec_ReadConf.l0 k s x i) ((min 5 s.size : Nat) : Int) (pReadConf s) (fun x i => x = (bytesOf s).take i.toNat)
    (fun x hx => by
      have hx' : x = (bytesOf s).take 5 := by
        rw [hx, Int.toNat_natCast]
        by_cases h5 : s.size ≤ 5
        · rw [List.take_of_length_le (by rw [bytes_len]; omega), List.take_of_length_le (by rw [bytes_len]; omega)]
        · rw [show min 5 s.size = 5 by omega]
      have he := spec_ReadConf_end s hs x hx'
      by_cases c : ((min 5 s.size : Nat) : Int) < (s.size : Int)
      · have c2 : ¬ ((min 5 s.size : Nat) : Int) ≤ 4 := by omega
        simp only [spec_ReadConf.l0, c, c2, if_true, if_false]
        exact he
      · simp only [spec_ReadConf.l0, c, if_false]
        exact he)
    (fun x i h0 h1 hx ih => by
      have hxl : x.length ≤ s.size := by rw [hx, List.length_take, bytes_len]; omega
      have c1 : i < (s.size : Int) := by omega
      have c2 : i ≤ 4 := by omega
      have c3 : x.length < 17592186044416 := by omega
      have br := bt_range s i
      have e1 : wrap64 (bt s i) = bt s i := w64 (by omega) (by omega)
      have e2 : wrap64 (i + 1) = i + 1 := w64 (by omega) (by omega)
      simp only [spec_ReadConf.l0, c1, c2, h0, c3, if_true, e1, e2]
      refine ih _ ?_
      rw [take_snoc_rd _ i h0 (by rw [bytes_len]; exact c1), hx, bt_rd]
      rfl)
  exact key (min 5 s.size) 0 [] (by omega) (by omega) (by simp)

theorem spec_EntryOk_ev (t kd : Int) (s : ByteArray) (hs : s.size ≤ 1048576) : Ev (fun k => spec_EntryOk.f k t kd s) (pEntryOk t kd s) := by
  simp only [spec_EntryOk.f]
  refine Ev.bind (spec_l01In_ev _ _ _) ?_
  by_cases ht : 0 ≤ t ∧ t ≤ 100000
  · have hd : decide (0 ≤ t ∧ t ≤ 100000) = true := decide_eq_true ht
    simp only [hd, if_true]
    by_cases c1 : kd = 1
    · simp [pEntryOk, hd, c1]
    · by_cases c2 : kd = 2
      · simp only [c2, if_true, show ¬ (2 : Int) = 1 by decide, if_false]
        refine Ev.bind (spec_ReadConf_ev s hs) ?_
        by_cases h : pConfOk (bytesOf s) = true
        · simp [pEntryOk, hd, pReadConf_yes h, h]
        · simp [pEntryOk, hd, pReadConf_no h, h]
      · by_cases c3 : kd = 3
        · simp [pEntryOk, hd, c3]
        · simp [pEntryOk, c1, c2, c3]
  · have hd : decide (0 ≤ t ∧ t ≤ 100000) = false := decide_eq_false ht
    simp [pEntryOk, hd]

theorem spec_EntryText_ev (idx t kd : Int) (s : ByteArray) (hs : s.size ≤ 1048576) : Ev (fun k => spec_EntryText.f k idx t kd s) (pEntryText idx t kd s) := by
  simp only [spec_EntryText.f]
  refine Ev.bind (spec_EntryOk_ev t kd s hs) ?_
  have hno : ¬ (pEntryOk t kd s = true ∧ 1 ≤ idx ∧ idx ≤ 1000000) → Ev (fun k => spec_EntryText.j0 k idx true t kd s) (pEntryText idx t kd s) := by
    intro hn
    apply ev_succ
    simp only [spec_EntryText.j0, if_true]
    rw [pEntryText_no hn]
    exact Ev.now _
  by_cases ho : pEntryOk t kd s = true
  · simp only [ho, if_true]
    refine Ev.bind (spec_l01In_ev _ _ _) ?_
    by_cases hi : 1 ≤ idx ∧ idx ≤ 1000000
    · simp only [hi, and_self, decide_true, Bool.not_true]
      have ht := pEntryOk_term ho
      rw [pEntryText_yes ⟨ho, hi⟩]
      obtain ⟨n, rfl⟩ := Int.eq_ofNat_of_zero_le (show 0 ≤ idx by omega)
      obtain ⟨m, rfl⟩ := Int.eq_ofNat_of_zero_le ht.1
      apply ev_succ
      simp only [spec_EntryText.j0, Bool.false_eq_true, if_false]
      have h5 := varB_size5 (n := n) (by omega)
      have h6 := varB_size5 (n := m) (by omega)
      have h1 : (⟨#[69]⟩ : ByteArray).size = 1 := rfl
      refine Ev.bind (spec_l01Var_ev n (by omega)) ?_
      have c1 : 1 + (varB n).size ≤ 9223372036854775807 := by omega
      simp only [c1, if_true]
      refine Ev.bind (spec_l01Var_ev m (by omega)) ?_
      have c2 : ((⟨#[69]⟩ : ByteArray) ++ varB n).size + (varB m).size ≤ 9223372036854775807 := by rw [size_app, h1]; omega
      have c3 : (((⟨#[69]⟩ : ByteArray) ++ varB n) ++ varB m).size + (strOfNums [kd % 256]).size ≤ 9223372036854775807 := by rw [size_app, size_app, one_size, h1]; omega
      have c4 : ((((⟨#[69]⟩ : ByteArray) ++ varB n) ++ varB m) ++ strOfNums [kd % 256]).size + s.size ≤ 9223372036854775807 := by rw [size_app, size_app, size_app, one_size, h1]; omega
      simp only [Option.bind_some, c2, c3, c4, if_true]
      apply ev_some
      rfl
    · simp only [hi, decide_false, Bool.not_false]
      exact hno (fun h => hi h.2)
  · simp only [ho, if_false]
    exact hno (fun h => ho h.1)

theorem spec_ReadEntry_ev (s : ByteArray) (hs : s.size ≤ 1048576) : Ev (fun k => spec_ReadEntry.f k s) (entP s) := by
  have hs' : s.size ≤ 140737488351232 := by omega
  have h0 : curOk s 0 := by unfold curOk; omega
  simp only [spec_ReadEntry.f]
  -- where something does not stand there
  have bad : ∀ (a : Int), curOk s a → Ev (fun k => (spec_l05Var.f k s a true).bind fun p2 => (spec_l05Var.f k p2.2.1 p2.2.2.1 p2.2.2.2).bind fun p3 => (spec_l05Take.f p3.2.1 p3.2.2.1 p3.2.2.2 1).bind fun p4 =>
      (if p4.2.2.2 = true then some (0, 0, 0, (⟨#[]⟩ : ByteArray), false) else (if (0 : Int) < (p4.1.size : Int) then (if 0 ≤ p4.2.2.1 then (if p4.2.2.1 ≤ (s.size : Int) then ((spec_EntryText.f k p2.1 p3.1 (bt p4.1 0) (s.extract (p4.2.2.1 : Int).toNat s.size)).bind fun q1 =>
        (if q1.2 = true then (if q1.1.toList = s.toList then some (p2.1, p3.1, bt p4.1 0, s.extract (p4.2.2.1 : Int).toNat s.size, true) else some (0, 0, 0, (⟨#[]⟩ : ByteArray), false)) else some (0, 0, 0, (⟨#[]⟩ : ByteArray), false))) else none) else none) else none))) (0, 0, 0, (⟨#[]⟩ : ByteArray), false) := by
    intro a ka
    have q2 := spec_l05Var_ev s hs' a true
    rw [curVar_bad] at q2
    refine Ev.bind q2 ?_
    simp only
    refine Ev.bind q2 ?_
    simp only
    have q4 := spec_l05Take_ev s hs' a true 1 ka (by decide)
    rw [curTake_bad] at q4
    refine Ev.bind q4 ?_
    simp only [if_true]
    exact Ev.now _
  unfold entP
  simp only
  have q1 := spec_l05Take_ev s hs' 0 false 1 h0 (by decide)
  rcases curTake1_cases s 0 with ⟨g1, e1⟩ | ⟨g1, e1⟩
  · have f1 : curOne s 0 false = (0, 0, true) := by
      rcases curOne_cases s 0 with ⟨_, h⟩ | ⟨h, _⟩
      · exact h
      · omega
    rw [e1] at q1
    rw [f1]
    simp only [curVar_bad, curOne_bad, if_true]
    refine Ev.bind q1 ?_
    simp only
    exact bad 0 h0
  have f1 : curOne s 0 false = (bt s 0, 0 + 1, false) := by
    rcases curOne_cases s 0 with ⟨h, _⟩ | ⟨_, h⟩
    · omega
    · exact h
  rw [e1] at q1
  rw [f1]
  refine Ev.bind q1 ?_
  simp only
  have k1 : curOk s (0 + 1) := by unfold curOk; omega
  have q2 := spec_l05Var_ev s hs' (0 + 1) false
  rcases curVar_cases s (0 + 1) with e2 | ⟨o2, e2⟩
  · have hb := bad (0 + 1) k1
    rw [e2] at q2
    rw [e2]
    simp only [curVar_bad, curOne_bad, if_true]
    refine Ev.bind q2 ?_
    simp only
    have q3 := spec_l05Var_ev s hs' (0 + 1) true
    rw [curVar_bad] at q3
    refine Ev.bind q3 ?_
    simp only
    have q4 := spec_l05Take_ev s hs' (0 + 1) true 1 k1 (by decide)
    rw [curTake_bad] at q4
    refine Ev.bind q4 ?_
    simp only [if_true]
    exact Ev.now _
  have k2 : curOk s (pReadVar s (0 + 1)).2.1 := by have h := curVar_ok (b := false) k1; rw [e2] at h; exact h
  rw [e2] at q2
  rw [e2]
  refine Ev.bind q2 ?_
  simp only
  have q3 := spec_l05Var_ev s hs' (pReadVar s (0 + 1)).2.1 false
  rcases curVar_cases s (pReadVar s (0 + 1)).2.1 with e3 | ⟨o3, e3⟩
  · rw [e3] at q3
    rw [e3]
    simp only [curOne_bad, if_true]
    refine Ev.bind q3 ?_
    simp only
    have q4 := spec_l05Take_ev s hs' (pReadVar s (0 + 1)).2.1 true 1 k2 (by decide)
    rw [curTake_bad] at q4
    refine Ev.bind q4 ?_
    simp only [if_true]
    exact Ev.now _
  have k3 : curOk s (pReadVar s (pReadVar s (0 + 1)).2.1).2.1 := by have h := curVar_ok (b := false) k2; rw [e3] at h; exact h
  rw [e3] at q3
  rw [e3]
  refine Ev.bind q3 ?_
  simp only
  obtain ⟨x, n1, ex⟩ : ∃ x n1, pReadVar s 1 = (x, n1, true) := ⟨_, _, by first | (rw [← o2]; done) | (rw [← o2]; rfl)⟩
  have ex' : pReadVar s (0 + 1) = (x, n1, true) := ex
  rw [ex'] at k3 o3 ⊢
  simp only at k3 o3 ⊢
  obtain ⟨t, n2, et⟩ : ∃ x n, pReadVar s n1 = (x, n, true) := ⟨_, _, by first | (rw [← o3]; done) | (rw [← o3]; rfl)⟩
  rw [et] at k3 ⊢
  simp only at k3 ⊢
  have b2 := pReadVar_ok s n1 o3
  rw [et] at b2
  simp only at b2
  have q4 := spec_l05Take_ev s hs' n2 false 1 k3 (by decide)
  rcases curTake1_cases s n2 with ⟨g4, e4⟩ | ⟨g4, e4⟩
  · have f4 : curOne s n2 false = (0, n2, true) := by
      rcases curOne_cases s n2 with ⟨_, h⟩ | ⟨h, _⟩
      · exact h
      · omega
    rw [e4] at q4
    rw [f4]
    refine Ev.bind q4 ?_
    simp only [if_true]
    exact Ev.now _
  have f4 : curOne s n2 false = (bt s n2, n2 + 1, false) := by
    rcases curOne_cases s n2 with ⟨h, _⟩ | ⟨_, h⟩
    · omega
    · exact h
  rw [e4] at q4
  rw [f4]
  refine Ev.bind q4 ?_
  have hz : (0 : Int) < ((s.extract n2.toNat (n2 + 1).toNat).size : Int) := by rw [size_ext]; omega
  have z1 : 0 ≤ n2 + 1 := by omega
  have z2 : n2 + 1 ≤ (s.size : Int) := by omega
  have hd : (s.extract (n2 + 1).toNat s.size).size ≤ 1048576 := by rw [size_ext]; omega
  simp only [Bool.false_eq_true, if_false, hz, z1, z2, if_true, bt_ext s n2 (by omega) g4]
  refine Ev.bind (spec_EntryText_ev x t (bt s n2) _ hd) ?_
  have hiff := entB_iff (s := s) (n1 := n1) (n2 := n2) (x := x) (t := t) g1 o2 ex o3 et g4
  by_cases ho : pEntryOk t (bt s n2) (s.extract (n2 + 1).toNat s.size) = true ∧ 1 ≤ x ∧ x ≤ 1000000
  · rw [pEntryText_yes ho]
    by_cases h69 : bt s 0 = 69
    · have hb := hiff.2 h69
      simp only [if_true, hb, h69, ho, and_self]
      exact Ev.now _
    · have hb : ¬ (entB x t (bt s n2) (s.extract (n2 + 1).toNat s.size)).toList = s.toList := fun h => h69 (hiff.1 (toList_iff.1 h))
      simp only [if_true, hb, h69, if_false, false_and]
      exact Ev.now _
  · rw [pEntryText_no ho]
    have : ¬ (bt s 0 = 69 ∧ pEntryOk t (bt s n2) (s.extract (n2 + 1).toNat s.size) = true ∧ 1 ≤ x ∧ x ≤ 1000000) := fun h => ho h.2
    simp only [Bool.false_eq_true, if_false, this]
    exact Ev.now _

theorem laws_eqEntry_ev (a0 : Int) (a1 : Int) (a2 : ByteArray) : Ev (fun _ => laws_eqEntry.f a0 a1 a2 a0 a1 a2) true := by
  apply ev_const
  simp [laws_eqEntry.f]

theorem FnExactReadEntry : laws_FnExactReadEntry.Pure := by
  intro s hs
  apply ev_rounds
  simp only [laws_FnExactReadEntry.f]
  by_cases c : (s.size : Int) > 1048576
  · simp only [c, if_true]
    exact Ev.now _
  simp only [c, if_false]
  refine Ev.bind (spec_ReadEntry_ev s (by omega)) ?_
  refine Ev.bind (impl_ReadEntry_ev s (by omega)) ?_
  simp only [if_true]
  refine Ev.bind (laws_eqEntry_ev _ _ _) ?_
  simp

end Go.Proofs.Ytaainenplcokaaa.Pure
