/- RingNew of the program and of the reference give the same ring and flag for every number; its slots are new memory. -/
import Derived.Test.YtfccdecalkabhaaPFnExactRingNewx3
import Derived.Test.YtfccdecalkabhaaBaseL
namespace Go.Proofs.Ytfccdecalkabhaa.Pure
open Go.RowKit Go.Proofs.Ytfccdecalkabhaa.PFnExactRingNew Go.Proofs.YtfccdecalkabhaaW.PrintWords Go.Proofs.YtfccdecalkabhaaW.PrintLast Go.Proofs.YtfccdecalkabhaaW.PrintMore Go.Proofs.Ytfccdecalkabhaa.Base
set_option linter.unusedVariables false
set_option linter.unusedSimpArgs false

theorem laws_markText_l0 (n : Nat) : ∀ s : ByteArray, s.size + n ≤ 140737488355328 → Ev (fun k => laws_markText.l0 k (n : Int) s) (decF n s) := by
  induction n using Nat.strongRecOn with
  | ind n ih =>
    intro s hs
    apply ev_succ
    by_cases hn : n = 0
    · subst hn
      have c : ¬ ((0 : Nat) : Int) > 0 := by omega
      have c2 : 1 + s.size ≤ 9223372036854775807 := by omega
      simp only [laws_markText.l0, c, c2, if_true, if_false]
      rw [decF_zero]
      exact Ev.now _
    · have c : (n : Int) > 0 := by omega
      have e1 : wrap64 (48 + Int.tmod (n : Int) 10) % 256 = ((48 + n % 10 : Nat) : Int) := by
        rw [Int.tmod_eq_emod_of_nonneg (by omega), w64 (by omega) (by omega)]; omega
      have e2 : wrap64 (Int.tdiv (n : Int) 10) = ((n / 10 : Nat) : Int) := by
        rw [Int.tdiv_eq_ediv_of_nonneg (by omega), w64 (by omega) (by omega)]; omega
      have c2 : (strOfNums [((48 + n % 10 : Nat) : Int)]).size + s.size ≤ 9223372036854775807 := by rw [str_len]; simp; omega
      simp only [laws_markText.l0, c, if_true, e1, e2, Option.bind_some, c2]
      rw [decF_more hn]
      refine ih (n / 10) (by omega) _ ?_
      rw [size_app, str_len]; simp; omega
theorem laws_markText_ev (k : Int) (h : k ≤ 140737488355328) : Ev (fun n => laws_markText.f n k) (markT k) := by
  simp only [laws_markText.f]
  by_cases c : k ≤ 0
  · simp only [c, if_true]
    rw [markT, if_pos c]
    exact Ev.now _
  · simp only [c, if_false]
    rw [markT, if_neg c]
    obtain ⟨n, rfl⟩ := Int.eq_ofNat_of_zero_le (show 0 ≤ k by omega)
    have := laws_markText_l0 n ⟨#[]⟩ (by simp [ByteArray.size]; omega)
    simpa using this

def mkSlot (a : Int) : Nat → List (S105)
  | 0 => []
  | n + 1 => ⟨a, markT (a + 1)⟩ :: mkSlot (a + 1 + 1) n
theorem mkSlot_len (a : Int) (n : Nat) : (mkSlot a n).length = n := by
  induction n generalizing a with
  | zero => rfl
  | succ n ih => simp [mkSlot, ih]
theorem mkSlot_get (a : Int) (n i : Nat) (h : i < n) : (mkSlot a n)[i]? = some ⟨(a + 2 * (i : Int)), markT ((a + 2 * (i : Int)) + 1)⟩ := by
  induction n generalizing a i with
  | zero => omega
  | succ n ih =>
    cases i with
    | zero => simp [mkSlot]
    | succ i =>
      simp only [mkSlot, List.getElem?_cons_succ]
      rw [ih _ _ (by omega)]
      rw [show (a + 1 + 1) + 2 * (i : Int) = a + 2 * ((i + 1 : Nat) : Int) by omega]
theorem laws_markSlotS_ev (l : List (S105)) (a : Int) (ha : 0 ≤ a) (hb : a ≤ 70368744177664) (hl : l.length ≤ 1099511627776) : Ev (fun k => laws_markSlotS.f k l a) (a + 2 * l.length, mkSlot a l.length) := by
  simp only [laws_markSlotS.f]
  have key := loop_up (fun k (s : List (S105) × Int) i => laws_markSlotS.l0 k s.1 s.2 i) (l.length : Int) (a + 2 * l.length, mkSlot a l.length)
    (fun s i => s.1.length = l.length ∧ s.2 = a + 2 * i ∧ s.1.take i.toNat = (mkSlot a l.length).take i.toNat)
    (fun s hs => by
      obtain ⟨b, x⟩ := s
      obtain ⟨hb, rfl, ht⟩ := hs
      simp only at hb ht ⊢
      have c : ¬ (l.length : Int) < (b.length : Int) := by omega
      simp only [laws_markSlotS.l0, c, if_false]
      apply ev_some
      rw [List.take_of_length_le (by omega), List.take_of_length_le (by rw [mkSlot_len]; omega)] at ht
      rw [ht])
    (fun s i h0 h1 hs ih => by
      obtain ⟨b, x⟩ := s
      obtain ⟨hb, rfl, ht⟩ := hs
      simp only at hb ht ⊢
      have h1' : i < (b.length : Int) := by omega
      have hr : ∀ v, rd_T105 (b.set i.toNat v) i = v := fun v => get_set b i v h0 h1' z105
      have hfin := ih (b.set i.toNat ⟨(a + 2 * i), markT ((a + 2 * i) + 1)⟩, (a + 2 * i) + 1 + 1) ⟨by simp [hb], by simp only; omega, by
        simp only
        rw [show (i + 1).toNat = i.toNat + 1 by omega]
        refine take_set (mkSlot a l.length) b i.toNat _ (by rw [mkSlot_len]; exact hb) (by rw [mkSlot_len]; omega) ht ?_
        rw [mkSlot_get _ _ _ (by omega), show ((i.toNat : Nat) : Int) = i by omega]⟩
      have e1 : wrap64 ((a + 2 * i) + 1) = (a + 2 * i) + 1 := w64 (by omega) (by omega)
      have e2 : wrap64 ((a + 2 * i) + 1 + 1) = (a + 2 * i) + 1 + 1 := w64 (by omega) (by omega)
      have ei : wrap64 (i + 1) = i + 1 := w64 (by omega) (by omega)
      simp only [laws_markSlotS.l0, h1', h0, if_true, e1, e2, ei, Option.bind_some, hr, List.set_set]
      refine Ev.bind (laws_markText_ev _ (by omega)) ?_
      try simp only [h1', h0, if_true, Option.bind_some, hr, List.set_set]
      exact hfin)
  exact key l.length 0 (l, a) (by omega) (by omega) ⟨rfl, by simp, by simp⟩
theorem laws_heldSlotS_ev (a : Int) (n : Nat) (ha : 0 ≤ a) (hb : a ≤ 70368744177664) (hn : n ≤ 1099511627776) : Ev (fun k => laws_heldSlotS.f k (mkSlot a n) a) (a + 2 * n) := by
  simp only [laws_heldSlotS.f]
  have key := loop_up (fun k (s : Int) i => laws_heldSlotS.l0 k (mkSlot a n) s i) (n : Int) (a + 2 * n) (fun s i => s = a + 2 * i)
    (fun s hs => by
      subst hs
      have c : ¬ (n : Int) < ((mkSlot a n).length : Int) := by rw [mkSlot_len]; omega
      simp only [laws_heldSlotS.l0, c, if_false]
      exact Ev.now _)
    (fun s i h0 h1 hs ih => by
      subst hs
      have hfin := ih ((a + 2 * i) + 1 + 1) (by omega)
      have c : i < ((mkSlot a n).length : Int) := by rw [mkSlot_len]; omega
      have he : rd_T105 (mkSlot a n) i = ⟨(a + 2 * i), markT ((a + 2 * i) + 1)⟩ := by
        have hg := mkSlot_get a n i.toNat (by omega)
        rw [show ((i.toNat : Nat) : Int) = i by omega] at hg
        unfold rd_T105
        rw [List.getD_eq_getElem?_getD, hg]
        rfl
      have e1 : wrap64 ((a + 2 * i) + 1) = (a + 2 * i) + 1 := w64 (by omega) (by omega)
      have e2 : wrap64 ((a + 2 * i) + 1 + 1) = (a + 2 * i) + 1 + 1 := w64 (by omega) (by omega)
      have ei : wrap64 (i + 1) = i + 1 := w64 (by omega) (by omega)
      simp only [laws_heldSlotS.l0, c, h0, if_true, e1, e2, ei, he]
      refine Ev.bind (laws_markText_ev _ (by omega)) ?_
      simp only [if_true]
      exact hfin)
  exact key n 0 a (by omega) (by omega) (by omega)

theorem laws_markRing_ev (l : List (S105)) (a b c : Int) (hc : 0 ≤ c) (hc2 : c ≤ 70368744177664) (hl : l.length ≤ 1099511627776) : Ev (fun k => laws_markRing.f k l a b c) (c + 2 * l.length, mkSlot c l.length) := by
  simp only [laws_markRing.f]
  exact Ev.bind (laws_markSlotS_ev l c hc hc2 hl) (Ev.now _)
theorem laws_heldRing_ev (a b c : Int) (n : Nat) (hc : 0 ≤ c) (hc2 : c ≤ 70368744177664) (hn : n ≤ 1099511627776) : Ev (fun k => laws_heldRing.f k (mkSlot c n) a b c) (c + 2 * n) := by
  simp only [laws_heldRing.f]
  refine Ev.bind (laws_heldSlotS_ev c n hc hc2 hn) ?_
  have h : ¬ c + 2 * (n : Int) < 0 := by omega
  simp only [h, if_false]
  exact Ev.now _

theorem laws_eqSlot_ev (a0 : Int) (a1 : ByteArray) : Ev (fun _ => laws_eqSlot.f a0 a1 a0 a1) true := by
  apply ev_const
  simp [laws_eqSlot.f]
theorem laws_eqSlotS_ev (l : List (S105)) (hl : l.length ≤ 140737488355328) : Ev (fun k => laws_eqSlotS.f k l l) true := by
  simp only [laws_eqSlotS.f, if_true]
  have key := loop_up (fun k (_ : Unit) i => laws_eqSlotS.l0 k l l i) (l.length : Int) true (fun _ _ => True)
    (fun _ _ => by
      have c : ¬ (l.length : Int) < (l.length : Int) := by omega
      simp only [laws_eqSlotS.l0, c, if_false]
      exact Ev.now _)
    (fun _ i h0 h1 _ ih => by
      have e2 : wrap64 (i + 1) = i + 1 := w64 (by omega) (by omega)
      simp only [laws_eqSlotS.l0, h1, h0, if_true, e2]
      refine Ev.bind (laws_eqSlot_ev _ _) ?_
      simp only [if_true]
      exact ih () trivial)
  exact key l.length 0 () (by omega) (by omega) trivial

theorem impl_within_ev (a b c : Int) : Ev (fun _ => impl_within.f a b c) (decide (b ≤ a ∧ a ≤ c)) := by
  apply ev_const
  unfold impl_within.f
  by_cases h : a ≥ b
  · rw [if_pos h]; simp [show b ≤ a from h]
  · rw [if_neg h]; simp [show ¬ b ≤ a from h]

theorem spec_l01In_ev (a b c : Int) : Ev (fun _ => spec_l01In.f a b c) (decide (b ≤ a ∧ a ≤ c)) := by
  apply ev_const
  unfold spec_l01In.f
  by_cases h : a ≥ b
  · rw [if_pos h]; simp [show b ≤ a from h]
  · rw [if_neg h]; simp [show ¬ b ≤ a from h]

def pRingNew (n : Int) : List (S105) × Int × Int × Bool := if 1 ≤ n ∧ n ≤ 8 then (List.replicate n.toNat z105, 0, 0, true) else ([], 0, 0, false)
theorem pRingNew_len (n : Int) : (pRingNew n).1.length ≤ 8 := by
  unfold pRingNew
  split
  · rw [List.length_replicate]; omega
  · exact Nat.zero_le _
theorem impl_RingNew_ev (n : Int) : Ev (fun _ => impl_RingNew.f n) (pRingNew n) := by
  simp only [impl_RingNew.f]
  refine Ev.bind (impl_within_ev _ _ _) ?_
  by_cases h : 1 ≤ n ∧ n ≤ 8
  · have c1 : 0 ≤ n := by omega
    have c2 : ∀ m : Nat, 8 ≤ m → n.toNat ≤ m := fun m hm => by omega
    simp only [h, and_self, decide_true, if_true, c1, c2 _ (show 8 ≤ 11728124029610 by decide)]
    apply ev_some
    rw [pRingNew, if_pos h]
  · simp only [h, decide_false, Bool.false_eq_true, if_false]
    apply ev_some
    rw [pRingNew, if_neg h]
theorem spec_RingNew_ev (n : Int) : Ev (fun _ => spec_RingNew.f n) (pRingNew n) := by
  simp only [spec_RingNew.f]
  refine Ev.bind (spec_l01In_ev _ _ _) ?_
  by_cases h : 1 ≤ n ∧ n ≤ 8
  · have c1 : 0 ≤ n := by omega
    have c2 : ∀ m : Nat, 8 ≤ m → n.toNat ≤ m := fun m hm => by omega
    simp only [h, and_self, decide_true, if_true, c1, c2 _ (show 8 ≤ 11728124029610 by decide)]
    apply ev_some
    rw [pRingNew, if_pos h]
  · simp only [h, decide_false, Bool.false_eq_true, if_false]
    apply ev_some
    rw [pRingNew, if_neg h]

theorem eqRing_self (l : List (S105)) (a b : Int) (hl : l.length ≤ 140737488355328) : Ev (fun k => laws_eqRing.f k l a b l a b) true := by
  simp only [laws_eqRing.f]
  refine Ev.bind (laws_eqSlotS_ev l hl) ?_
  simp
theorem FnExactRingNew : laws_FnExactRingNew.Pure := by
  intro n hn
  apply ev_rounds
  simp only [laws_FnExactRingNew.f]
  have hl := pRingNew_len n
  have he := eqRing_self (pRingNew n).1 (pRingNew n).2.1 (pRingNew n).2.2.1 (by omega)
  have hm := laws_markRing_ev (pRingNew n).1 (pRingNew n).2.1 (pRingNew n).2.2.1 1 (by decide) (by decide) (by omega)
  have hh := laws_heldRing_ev (pRingNew n).2.1 (pRingNew n).2.2.1 1 (pRingNew n).1.length (by decide) (by decide) (by omega)
  have c : ¬ (1 : Int) + 2 * ((pRingNew n).1.length : Int) < 0 := by omega
  refine Ev.bind (spec_RingNew_ev n) ?_
  refine Ev.bind (impl_RingNew_ev n) ?_
  refine Ev.bind he ?_
  simp only [if_true, bne_self_eq_false]
  apply ev_succ
  simp only [laws_FnExactRingNew.j0, Bool.false_eq_true, if_false]
  refine Ev.bind hm ?_
  refine Ev.bind hh ?_
  simp only [c, if_true, if_false]
  refine Ev.bind (impl_RingNew_ev n) ?_
  refine Ev.bind he ?_
  simp only [if_true, bne_self_eq_false]
  apply ev_succ
  simp only [laws_FnExactRingNew.j1, Bool.false_eq_true, if_false]
  refine Ev.bind hh ?_
  simp only [c, if_true, if_false]
  exact Ev.now _

end Go.Proofs.Ytfccdecalkabhaa.Pure
