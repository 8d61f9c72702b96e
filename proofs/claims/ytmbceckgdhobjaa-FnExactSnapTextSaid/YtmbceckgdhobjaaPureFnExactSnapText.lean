/- SnapText of the program and of the reference give the same text and flag for every snapshot, which stays as it is. -/
import Derived.Test.YtmbceckgdhobjaaOpenFnExactSnapText
import Derived.Test.YtmbceckgdhobjaaBaseL
import Derived.Test.YtmbceckgdhobjaaBaseF
namespace Go.Proofs.Ytmbceckgdhobjaa.Pure
open Go.RowKit Go.Proofs.Ytmbceckgdhobjaa.QFnExactSnapText Go.Proofs.YtmbceckgdhobjaaW.PrintWords Go.Proofs.YtmbceckgdhobjaaW.PrintLast Go.Proofs.YtmbceckgdhobjaaW.PrintMore Go.Proofs.Ytmbceckgdhobjaa.Base
set_option linter.unusedVariables false
set_option linter.unusedSimpArgs false

theorem laws_toIntS_l0 (l : List Int) (hl : l.length ≤ 35184372088832) : ∀ (d : Nat) (i : Int) (b : List Int), 0 ≤ i → i + d = l.length → b.length = l.length → b.take i.toNat = l.take i.toNat →
    Ev (fun k => laws_toIntS.l0 k l b i) l := by
  intro d
  induction d with
  | zero =>
    intro i b h0 h hb ht
    apply ev_succ
    have c : ¬ i < (l.length : Int) := by omega
    simp only [laws_toIntS.l0, c, if_false]
    apply ev_some
    rw [List.take_of_length_le (by omega), List.take_of_length_le (by omega)] at ht
    exact ht
  | succ d ih =>
    intro i b h0 h hb ht
    apply ev_succ
    have c : i < (l.length : Int) := by omega
    have c2 : i < (b.length : Int) := by omega
    have e5 : wrap64 (i + 1) = i + 1 := w64 (by omega) (by omega)
    simp only [laws_toIntS.l0, c, c2, h0, if_true, e5]
    refine ih (i + 1) _ (by omega) (by omega) (by rw [List.length_set]; exact hb) ?_
    rw [show (i + 1).toNat = i.toNat + 1 by omega]
    refine take_set l b i.toNat _ hb (by omega) ht ?_
    rw [rd, List.getD_eq_getElem?_getD, List.getElem?_eq_getElem (show i.toNat < l.length by omega)]
    rfl
theorem laws_toIntS_ev (l : List Int) (hl : l.length ≤ 35184372088832) : Ev (fun k => laws_toIntS.f k l) l := by
  have c1 : 0 ≤ (l.length : Int) := by omega
  have c2 : ((l.length : Int)).toNat ≤ 35184372088832 := by omega
  simp only [laws_toIntS.f, c1, c2, if_true]
  exact laws_toIntS_l0 l hl l.length 0 _ (by omega) (by omega) (by simp) (by simp)

theorem laws_eqIntS_l0 (a b : List Int) (hl : a.length = b.length) (hb : a.length ≤ 35184372088832) : ∀ (d : Nat) (i : Int), 0 ≤ i → i + d = a.length →
    Ev (fun k => laws_eqIntS.l0 k a b i) (decide (a.drop i.toNat = b.drop i.toNat)) := by
  intro d
  induction d with
  | zero =>
    intro i h0 h
    apply ev_succ
    have c : ¬ i < (a.length : Int) := by omega
    simp only [laws_eqIntS.l0, c, if_false]
    apply ev_some
    rw [List.drop_of_length_le (by omega), List.drop_of_length_le (by omega)]
    simp
  | succ d ih =>
    intro i h0 h
    apply ev_succ
    have c : i < (a.length : Int) := by omega
    have c2 : i < (b.length : Int) := by omega
    have e5 : wrap64 (i + 1) = i + 1 := w64 (by omega) (by omega)
    have hh := ih (i + 1) (by omega) (by omega)
    simp only [laws_eqIntS.l0, c, c2, h0, if_true, e5]
    rw [drop_rd a i h0 c, drop_rd b i h0 c2]
    by_cases hq : rd a i = rd b i
    · simp only [hq, if_true, List.cons.injEq, true_and]
      exact hh
    · simp only [hq, if_false, List.cons.injEq, false_and, decide_false]
      exact Ev.now _
theorem laws_eqIntS_ev (a b : List Int) (hb : a.length ≤ 35184372088832) : Ev (fun k => laws_eqIntS.f k a b) (decide (a = b)) := by
  simp only [laws_eqIntS.f]
  by_cases hl : (a.length : Int) = (b.length : Int)
  · simp only [hl, if_true]
    simpa using laws_eqIntS_l0 a b (by omega) hb a.length 0 (by omega) (by omega)
  · simp only [hl, if_false]
    rw [decide_eq_false (by rintro rfl; exact hl rfl)]
    exact Ev.now _

theorem laws_szSnap_ev (a b : Int) (l : List Int) (s : ByteArray) (hl : l.length ≤ 9223372036854775807) (hs : s.size ≤ 9223372036854775807) :
    ∃ r : Int, Ev (fun _ => laws_szSnap.f a b l s 1048576) r ∧ (r < 0 ∨ (0 ≤ r ∧ r = 1048576 - l.length - s.size)) := by
  have e : wrap64 (1048576 - (l.length : Int)) = 1048576 - l.length := w64 (by omega) (by omega)
  have hz : Ev (fun _ => laws_szIntS.f l 1048576) (if 1048576 - (l.length : Int) < 0 then -1 else 1048576 - l.length) := by
    apply ev_const
    simp only [laws_szIntS.f, e]
    split <;> rfl
  by_cases c : 1048576 - (l.length : Int) < 0
  · refine ⟨-1, ?_, Or.inl (by decide)⟩
    simp only [laws_szSnap.f]
    refine Ev.bind hz ?_
    simp only [c, if_true, show (-1 : Int) < 0 by decide]
    exact Ev.now _
  · have e2 : wrap64 (1048576 - (l.length : Int) - s.size) = 1048576 - l.length - s.size := w64 (by omega) (by omega)
    by_cases c2 : 1048576 - (l.length : Int) - s.size < 0
    · refine ⟨-1, ?_, Or.inl (by decide)⟩
      simp only [laws_szSnap.f]
      refine Ev.bind hz ?_
      simp only [c, if_false, e2, c2, if_true]
      exact Ev.now _
    · refine ⟨1048576 - l.length - s.size, ?_, Or.inr ⟨by omega, rfl⟩⟩
      simp only [laws_szSnap.f]
      refine Ev.bind hz ?_
      simp only [c, if_false, e2, c2]
      exact Ev.now _
theorem laws_toSnap_ev (a b : Int) (l : List Int) (s : ByteArray) (hl : l.length ≤ 1048576) : Ev (fun k => laws_toSnap.f k a b l s) (a, b, l, s) := by
  simp only [laws_toSnap.f]
  exact Ev.bind (laws_toIntS_ev l (by omega)) (Ev.now _)
theorem laws_eqSnap_ev (a b : Int) (l : List Int) (s : ByteArray) (hl : l.length ≤ 1048576) : Ev (fun k => laws_eqSnap.f k a b l s a b l s) true := by
  simp only [laws_eqSnap.f, if_true]
  refine Ev.bind (laws_eqIntS_ev l l (by omega)) ?_
  simp

theorem impl_within_ev (a b c : Int) : Ev (fun _ => impl_within.f a b c) (decide (b ≤ a ∧ a ≤ c)) := by
  apply ev_const
  unfold impl_within.f
  by_cases h : a ≥ b
  · rw [if_pos h]; simp [show b ≤ a from h]
  · rw [if_neg h]; simp [show ¬ b ≤ a from h]

theorem impl_isNode_ev (x : Int) : Ev (fun _ => impl_isNode.f x) (decide (1 ≤ x ∧ x ≤ 4)) := by
  simp only [impl_isNode.f]
  exact Ev.bind (impl_within_ev _ _ _) (Ev.now _)
theorem impl_nodesOk_l0 (l : List Int) (hl : l.length ≤ 35184372088832) : ∀ (d : Nat) (i : Int), 0 ≤ i → i + d = l.length →
    Ev (fun k => impl_nodesOk.l0 k l l (l.length : Int) i) (rise 1 4 (prev l i) (l.drop i.toNat)) := by
  intro d
  induction d with
  | zero =>
    intro i h0 h
    apply ev_succ
    have c : ¬ i < (l.length : Int) := by omega
    simp only [impl_nodesOk.l0, c, if_false]
    apply ev_some
    rw [List.drop_of_length_le (by omega)]; simp [rise]
  | succ d ih =>
    intro i h0 h
    apply ev_succ
    have c : i < (l.length : Int) := by omega
    have e5 : wrap64 (i + 1) = i + 1 := w64 (by omega) (by omega)
    have e6 : wrap64 (i - 1) = i - 1 := w64 (by omega) (by omega)
    simp only [impl_nodesOk.l0, c, h0, if_true, e5, e6]
    refine Ev.bind (impl_isNode_ev _) ?_
    have hh := ih (i + 1) (by omega) (by omega)
    have hp : prev l (i + 1) = some (rd l i) := by rw [prev, if_neg (by omega)]; congr 2; omega
    rw [hp] at hh
    rw [drop_rd l i h0 c]
    by_cases hb : 1 ≤ rd l i ∧ rd l i ≤ 4
    · simp only [hb, and_self, decide_true, if_true]
      by_cases hi : i > 0
      · have k1 : 0 ≤ i - 1 := by omega
        have k2 : i - 1 < (l.length : Int) := by omega
        simp only [hi, k1, k2, if_true]
        rw [prev, if_neg (by omega)]
        by_cases hq : rd l (i - 1) ≥ rd l i
        · simp only [hq, if_true]
          apply ev_some
          simp [rise, show ¬ rd l (i - 1) < rd l i by omega]
        · simp only [hq, if_false]
          simpa [rise, hb, show rd l (i - 1) < rd l i by omega] using hh
      · simp only [hi, if_false]
        rw [prev, if_pos (by omega)]
        simpa [rise, hb] using hh
    · simp only [hb, decide_false, Bool.false_eq_true, if_false]
      apply ev_some
      cases prev l i <;> simp [rise, hb]
theorem impl_nodesOk_ev (l : List Int) (hl : l.length ≤ 35184372088832) : Ev (fun k => impl_nodesOk.f k l) (rise 1 4 none l) := by
  simp only [impl_nodesOk.f]
  have := impl_nodesOk_l0 l hl l.length 0 (by omega) (by omega)
  simpa [prev] using this
theorem impl_ConfOk_ev (l : List Int) (hl : l.length ≤ 35184372088832) : Ev (fun k => impl_ConfOk.f k l) (pConfOk l) := by
  simp only [impl_ConfOk.f]
  by_cases h : (l.length : Int) > 0
  · simp only [h, if_true]
    rw [pConfOk, decide_eq_true (by omega), Bool.true_and]
    exact Ev.bind (impl_nodesOk_ev l hl) (Ev.now _)
  · simp only [h, if_false]
    rw [pConfOk, decide_eq_false (by omega), Bool.false_and]
    exact Ev.now _

theorem impl_byteTexts_ev (l : List Int) (hl : l.length ≤ 35184372088832) : Ev (fun k => impl_byteTexts.f k l) (confB l) := by
  simp only [impl_byteTexts.f]
  have key := loop_up (fun k (s : List Int) i => impl_byteTexts.l0 k s l (l.length : Int) i) (l.length : Int) (confB l) (fun s i => s = (l.take i.toNat).map fun x => x % 256)
    (fun s hs => by
      subst hs
      have c : ¬ (l.length : Int) < (l.length : Int) := by omega
      simp only [impl_byteTexts.l0, c, if_false]
      apply ev_some
      rw [List.take_of_length_le (by omega), confB])
    (fun s i h0 h1 hs ih => by
      have hsl : s.length ≤ l.length := by rw [hs, List.length_map, List.length_take]; omega
      have c3 : s.length < 140737488355328 := by omega
      have e2 : wrap64 (i + 1) = i + 1 := w64 (by omega) (by omega)
      simp only [impl_byteTexts.l0, h1, h0, c3, if_true, e2]
      refine ih _ ?_
      rw [map_take_snoc _ l i h0 h1, hs])
  exact key l.length 0 [] (by omega) (by omega) (by simp)

theorem impl_ConfText_ev (l : List Int) (hl : l.length ≤ 35184372088832) : Ev (fun k => impl_ConfText.f k l) (pConfText l) := by
  simp only [impl_ConfText.f]
  refine Ev.bind (impl_ConfOk_ev l hl) ?_
  by_cases h : pConfOk l = true
  · simp only [h, if_true]
    rw [pConfText_yes h]
    exact Ev.bind (impl_byteTexts_ev l hl) (Ev.now _)
  · simp only [h, if_false]
    rw [pConfText_no h]
    exact Ev.now _

theorem impl_VarText_l0 (n : Nat) : ∀ xs : List Int, xs.length + n < 140737488355328 → Ev (fun k => impl_VarText.l0 k (n : Int) xs) (strOfNums (xs ++ varN n), true) := by
  induction n using Nat.strongRecOn with
  | ind n ih =>
    intro xs h
    apply ev_succ
    have c2 : xs.length < 140737488355328 := by omega
    by_cases hn : n ≤ 127
    · have c1 : ¬ (n : Int) > 127 := by omega
      simp only [impl_VarText.l0, c1, c2, if_true, if_false]
      apply ev_some
      rw [varN_small hn, show (n : Int) % 256 = n by omega]
    · have c1 : (n : Int) > 127 := by omega
      simp only [impl_VarText.l0, c1, c2, if_true, var_div n (by omega), var_mod n]
      have := ih (n / 128) (by omega) (xs ++ [((n % 128 + 128 : Nat) : Int)]) (by simp; omega)
      rw [varN_big hn]
      simpa using this
theorem impl_VarText_ev (n : Int) : Ev (fun k => impl_VarText.f k n) (pVarText n) := by
  simp only [impl_VarText.f]
  refine Ev.bind (impl_within_ev _ _ _) ?_
  by_cases h : 0 ≤ n ∧ n ≤ 1000000000
  · simp only [h, and_self, decide_true, if_true]
    obtain ⟨m, rfl⟩ := Int.eq_ofNat_of_zero_le h.1
    have := impl_VarText_l0 m [] (by simp; omega)
    rw [pVarText_yes h]
    simpa [varB] using this
  · simp only [h, decide_false, Bool.false_eq_true, if_false]
    rw [pVarText_no h]
    exact Ev.now _

theorem impl_ShortText_ev (s : ByteArray) (hs : s.size ≤ 140737488351232) : Ev (fun k => impl_ShortText.f k s) (pShortText s) := by
  simp only [impl_ShortText.f]
  by_cases h : (s.size : Int) > 20000
  · simp only [h, if_true]
    rw [pShortText_no (by omega)]
    exact Ev.now _
  · simp only [h, if_false]
    refine Ev.bind (impl_VarText_ev (s.size : Int)) ?_
    rw [pVarText_yes (by omega)]
    have hl := (varN_len s.size).2
    have c : (varB s.size).size + s.size ≤ 9223372036854775807 := by rw [varB, str_len]; omega
    simp only [Int.toNat_natCast, c, if_true]
    rw [pShortText_yes (by omega)]
    exact Ev.now _

theorem impl_shortTexts_one (c : ByteArray) (hc : c.size ≤ 20000) : Ev (fun k => impl_shortTexts.f k [c]) (varB c.size ++ c) := by
  have hv := varB_size5 (n := c.size) (by omega)
  have h0 : (⟨#[]⟩ : ByteArray).size = 0 := rfl
  have hr : rdOf ByteArray.empty [c] 0 = c := rfl
  have e1 : wrap64 (0 + 1) = 1 := wlit (by decide) (by decide) (by decide)
  have c2 : (⟨#[]⟩ : ByteArray).size + (varB c.size ++ c).size ≤ 9223372036854775807 := by rw [size_app, h0]; omega
  simp only [impl_shortTexts.f]
  apply ev_succ
  simp only [impl_shortTexts.l0, List.length_singleton, show (0 : Int) < ((1 : Nat) : Int) by decide, show (0 : Int) ≤ 0 by decide, if_true, hr, e1]
  refine Ev.bind (impl_ShortText_ev c (by omega)) ?_
  rw [pShortText_yes hc]
  simp only [c2, if_true]
  apply ev_succ
  simp only [impl_shortTexts.l0, show ¬ (1 : Int) < ((1 : Nat) : Int) by decide, if_false]
  apply ev_some
  rw [nil_app]

theorem impl_varTexts_ev (l : List Int) (hl : l.length ≤ 1048576) : Ev (fun k => impl_varTexts.f k l) (varsB l) := by
  simp only [impl_varTexts.f]
  have key := loop_up (fun k (s : ByteArray) i => impl_varTexts.l0 k s l (l.length : Int) i) (l.length : Int) (varsB l) (fun s i => s = varsB (l.take i.toNat))
    (fun s hs => by
      rw [List.take_of_length_le (by omega)] at hs
      have c : ¬ (l.length : Int) < (l.length : Int) := by omega
      simp only [impl_varTexts.l0, c, if_false]
      exact ev_some hs)
    (fun s i h0 h1 hs ih => by
      have hz := varsB_size (l.take i.toNat)
      rw [List.length_take] at hz
      have hv := pVarText_size (rd l i)
      have e2 : wrap64 (i + 1) = i + 1 := w64 (by omega) (by omega)
      have c3 : s.size + (pVarText (rd l i)).1.size ≤ 9223372036854775807 := by rw [hs]; omega
      simp only [impl_varTexts.l0, h1, h0, if_true, e2]
      refine Ev.bind (impl_VarText_ev _) ?_
      simp only [c3, if_true]
      refine ih _ ?_
      rw [take_snoc_rd l i h0 h1, varsB_snoc, hs])
  exact key l.length 0 ⟨#[]⟩ (by omega) (by omega) (by simp [varsB])

theorem impl_SumMore_l1 (s : ByteArray) (i : Int) (h0 : 0 ≤ i) (h1 : i < s.size) (hs : s.size ≤ 140737488351232) (r : Int) : ∀ (m : Nat) (j x : Int), 0 ≤ j → j + m = 8 →
    Ev (fun k => impl_SumMore.l0 k (crcK m x) s (i + 1)) r → Ev (fun k => impl_SumMore.l1 k x s i j) r := by
  intro m
  induction m with
  | zero =>
    intro j x hj hm h
    apply ev_succ
    have c : ¬ j < 8 := by omega
    have e : wrap64 (i + 1) = i + 1 := w64 (by omega) (by omega)
    simp only [impl_SumMore.l1, c, if_false, e]
    exact h
  | succ m ih =>
    intro j x hj hm h
    apply ev_succ
    have c : j < 8 := by omega
    have e : wrap64 (j + 1) = j + 1 := w64 (by omega) (by omega)
    have hh := ih (j + 1) (crc1 x) (by omega) (by omega) h
    by_cases o : Int.tmod x 2 = 1
    · simp only [crc1, o, if_true] at hh
      simp only [impl_SumMore.l1, c, o, if_true, e]
      exact hh
    · simp only [crc1, o, if_false] at hh
      simp only [impl_SumMore.l1, c, o, if_true, if_false, e]
      exact hh
theorem impl_SumMore_l0 (s : ByteArray) (hs : s.size ≤ 140737488351232) : ∀ (d : Nat) (i : Int) (x : Int), 0 ≤ i → i + d = s.size →
    Ev (fun k => impl_SumMore.l0 k x s i) (crcL x ((bytesOf s).drop i.toNat)) := by
  intro d
  induction d with
  | zero =>
    intro i x h0 h
    apply ev_succ
    have c : ¬ i < (s.size : Int) := by omega
    simp only [impl_SumMore.l0, c, if_false]
    apply ev_some
    rw [List.drop_of_length_le (by rw [bytes_len]; omega)]; rfl
  | succ d ih =>
    intro i x h0 h
    apply ev_succ
    have c : i < (s.size : Int) := by omega
    simp only [impl_SumMore.l0, c, h0, if_true]
    have hh := ih (i + 1) (crcB x (bt s i)) (by omega) (by omega)
    rw [drop_bt s i h0 c]
    exact impl_SumMore_l1 s i h0 c hs _ 8 0 _ (by omega) (by omega) hh
theorem impl_SumMore_ev (x : Int) (s : ByteArray) (hs : s.size ≤ 140737488351232) : Ev (fun k => impl_SumMore.f k x s) (crcL x (bytesOf s)) := by
  simp only [impl_SumMore.f]
  exact impl_SumMore_l0 s hs s.size 0 x (by omega) (by omega)

theorem impl_SumOf_ev (s : ByteArray) (hs : s.size ≤ 140737488351232) : Ev (fun k => impl_SumOf.f k s) (sumN s) := by
  simp only [impl_SumOf.f]
  exact Ev.bind (impl_SumMore_ev _ s hs) (Ev.now _)

theorem impl_highFirst_ev (x : Int) (h0 : 0 ≤ x) (h1 : x < 4294967296) : Ev (fun k => impl_highFirst.f k x 4) (strOfNums (four x)) := by
  have a1 : Go.bits .and .i64 x 255 = x % 256 := bits_and255 x h0 (by omega)
  have a2 : Go.bits .and .i64 (x / 256) 255 = x / 256 % 256 := bits_and255 _ (by omega) (by omega)
  have a3 : Go.bits .and .i64 (x / 256 / 256) 255 = x / 256 / 256 % 256 := bits_and255 _ (by omega) (by omega)
  have a4 : Go.bits .and .i64 (x / 256 / 256 / 256) 255 = x / 256 / 256 / 256 % 256 := bits_and255 _ (by omega) (by omega)
  have w1 : wrap64 (4 - 1) = 3 := wlit (by decide) (by decide) (by decide)
  have w2 : wrap64 (3 - 1) = 2 := wlit (by decide) (by decide) (by decide)
  have w3 : wrap64 (2 - 1) = 1 := wlit (by decide) (by decide) (by decide)
  have w4 : wrap64 (1 - 1) = 0 := wlit (by decide) (by decide) (by decide)
  have w5 : wrap64 (0 - 1) = -1 := wlit (by decide) (by decide) (by decide)
  simp only [impl_highFirst.f, show (0 : Int) ≤ 4 by decide, show (4 : Int).toNat ≤ 281474976710656 by decide, if_true, w1]
  apply ev_succ
  simp only [impl_highFirst.l0, show (3 : Int) ≥ 0 by decide, show (0 : Int) ≤ 3 by decide, show (3 : Int) < ((List.replicate (4 : Int).toNat (0 : Int)).length : Int) by decide, if_true, w2, a1]
  apply ev_succ
  simp only [impl_highFirst.l0, show (2 : Int) ≥ 0 by decide, show (0 : Int) ≤ 2 by decide, List.length_set, show (2 : Int) < ((List.replicate (4 : Int).toNat (0 : Int)).length : Int) by decide, if_true, w3, a2]
  apply ev_succ
  simp only [impl_highFirst.l0, show (1 : Int) ≥ 0 by decide, show (0 : Int) ≤ 1 by decide, List.length_set, show (1 : Int) < ((List.replicate (4 : Int).toNat (0 : Int)).length : Int) by decide, if_true, w4, a3]
  apply ev_succ
  simp only [impl_highFirst.l0, show (0 : Int) ≥ 0 by decide, show (0 : Int) ≤ 0 by decide, List.length_set, show (0 : Int) < ((List.replicate (4 : Int).toNat (0 : Int)).length : Int) by decide, if_true, w5, a4]
  apply ev_succ
  simp only [impl_highFirst.l0, show ¬ (-1 : Int) ≥ 0 by decide, if_false]
  apply ev_some
  show strOfNums [x / 256 / 256 / 256 % 256 % 256, x / 256 / 256 % 256 % 256, x / 256 % 256 % 256, x % 256 % 256] = strOfNums (four x)
  unfold four
  congr 1
  simp only [List.cons.injEq, and_true]
  omega
theorem impl_Sealed_ev (s : ByteArray) (hs : s.size ≤ 140737488351232) : Ev (fun k => impl_Sealed.f k s) (pSealed s) := by
  simp only [impl_Sealed.f]
  by_cases h : (s.size : Int) > 20000
  · simp only [h, if_true]
    rw [pSealed_no (by omega)]
    exact Ev.now _
  · simp only [h, if_false]
    refine Ev.bind (impl_SumOf_ev s hs) ?_
    have hr := sumN_range s
    have e : wrap64 (sumN s) = sumN s := w64 (by omega) (by omega)
    simp only [e]
    refine Ev.bind (impl_highFirst_ev _ hr.1 hr.2) ?_
    have c : s.size + (strOfNums (four (sumN s))).size ≤ 9223372036854775807 := by rw [str_len]; simp [four]; omega
    simp only [c, if_true]
    rw [pSealed_yes (by omega)]
    exact Ev.now _

theorem impl_isIndex_ev (x : Int) : Ev (fun _ => impl_isIndex.f x) (decide (0 ≤ x ∧ x ≤ 1000000)) := by
  simp only [impl_isIndex.f]
  exact Ev.bind (impl_within_ev _ _ _) (Ev.now _)

theorem impl_isTerm_ev (x : Int) : Ev (fun _ => impl_isTerm.f x) (decide (0 ≤ x ∧ x ≤ 100000)) := by
  simp only [impl_isTerm.f]
  exact Ev.bind (impl_within_ev _ _ _) (Ev.now _)

theorem impl_SnapText_ev (idx t : Int) (conf : List Int) (body : ByteArray) (hc : conf.length ≤ 1048576) (hb : body.size ≤ 1048576) : Ev (fun k => impl_SnapText.f k idx t conf body) (pSnapText idx t conf body) := by
  simp only [impl_SnapText.f]
  refine Ev.bind (impl_ConfText_ev conf (by omega)) ?_
  refine Ev.bind (impl_ShortText_ev body (by omega)) ?_
  have hno : ∀ x y, ¬ snapOk idx t conf body → Ev (fun k => impl_SnapText.j0 k x y true idx t conf body) (pSnapText idx t conf body) := by
    intro x y hn
    apply ev_succ
    simp only [impl_SnapText.j0, if_true]
    rw [pSnapText_no hn]
    exact Ev.now _
  by_cases h1 : pConfOk conf = true
  · rw [pConfText_yes h1]
    by_cases h2 : body.size ≤ 20000
    · rw [pShortText_yes h2]
      simp only [if_true]
      refine Ev.bind (impl_isIndex_ev idx) ?_
      by_cases h3 : 0 ≤ idx ∧ idx ≤ 1000000
      · simp only [h3, and_self, decide_true, if_true]
        refine Ev.bind (impl_isTerm_ev t) ?_
        by_cases h4 : 0 ≤ t ∧ t ≤ 100000
        · simp only [h4, and_self, decide_true, Bool.not_true]
          apply ev_succ
          simp only [impl_SnapText.j0, Bool.false_eq_true, if_false]
          have hl := confOk_len conf h1
          have hcs := confB_size conf
          have v1 := varB_size5 (n := idx.toNat) (by omega)
          have v2 := varB_size5 (n := t.toNat) (by omega)
          have v3 := varB_size5 (n := (confB conf).size) (by omega)
          have v4 := varB_size5 (n := body.size) (by omega)
          have hz := snapIn_size idx t (confB conf) body
          refine Ev.bind (impl_varTexts_ev [idx, t] (by simp)) ?_
          rw [varsB_two idx t (by omega) (by omega)]
          refine Ev.bind (impl_shortTexts_one (confB conf) (by omega)) ?_
          have c1 : (varB idx.toNat ++ varB t.toNat).size + (varB (confB conf).size ++ confB conf).size ≤ 9223372036854775807 := by rw [size_app, size_app]; omega
          have c2 : ((varB idx.toNat ++ varB t.toNat) ++ (varB (confB conf).size ++ confB conf)).size + (varB body.size ++ body).size ≤ 9223372036854775807 := by rw [size_app, size_app, size_app, size_app]; omega
          simp only [c1, c2, if_true]
          refine Ev.bind (impl_Sealed_ev (snapIn idx t (confB conf) body) (by omega)) ?_
          by_cases h5 : (snapIn idx t (confB conf) body).size ≤ 20000
          · rw [pSealed_yes h5]
            have hs := sealB_size (snapIn idx t (confB conf) body)
            by_cases h6 : (snapIn idx t (confB conf) body).size + 4 ≤ 20000
            · have c6 : ¬ ((sealB (snapIn idx t (confB conf) body)).size : Int) > 20000 := by omega
              simp only [if_true, c6, if_false]
              rw [pSnapText_yes ⟨h1, h3, h4, h2, h6⟩]
              exact Ev.now _
            · have c6 : ((sealB (snapIn idx t (confB conf) body)).size : Int) > 20000 := by omega
              simp only [if_true, c6]
              rw [pSnapText_no (fun h => h6 h.2.2.2.2)]
              exact Ev.now _
          · rw [pSealed_no h5, pSnapText_no (fun h => by have := h.2.2.2.2; omega)]
            simp only [Bool.false_eq_true, if_false]
            exact Ev.now _
        · simp only [h4, decide_false, Bool.not_false]
          exact hno _ _ (fun h => h4 h.2.2.1)
      · simp only [h3, decide_false, Bool.false_eq_true, if_false]
        exact hno _ _ (fun h => h3 h.2.1)
    · rw [pShortText_no h2]
      simp only [if_true, Bool.false_eq_true, if_false]
      exact hno _ _ (fun h => h2 h.2.2.2.1)
  · rw [pConfText_no h1]
    simp only [Bool.false_eq_true, if_false]
    exact hno _ _ (fun h => h1 h.1)

theorem spec_l01In_ev (a b c : Int) : Ev (fun _ => spec_l01In.f a b c) (decide (b ≤ a ∧ a ≤ c)) := by
  apply ev_const
  unfold spec_l01In.f
  by_cases h : a ≥ b
  · rw [if_pos h]; simp [show b ≤ a from h]
  · rw [if_neg h]; simp [show ¬ b ≤ a from h]

theorem spec_l05Rise_l0 (l : List Int) (lo up : Int) (hl : l.length ≤ 35184372088832) : ∀ (d : Nat) (i : Int), 0 ≤ i → i + d = l.length →
    Ev (fun k => spec_l05Rise.l0 k l lo up i) (rise lo up (prev l i) (l.drop i.toNat)) := by
  intro d
  induction d with
  | zero =>
    intro i h0 h
    apply ev_succ
    have c : ¬ i < (l.length : Int) := by omega
    simp only [spec_l05Rise.l0, c, if_false]
    apply ev_some
    rw [List.drop_of_length_le (by omega)]; simp [rise]
  | succ d ih =>
    intro i h0 h
    apply ev_succ
    have c : i < (l.length : Int) := by omega
    have e5 : wrap64 (i + 1) = i + 1 := w64 (by omega) (by omega)
    have e6 : wrap64 (i - 1) = i - 1 := w64 (by omega) (by omega)
    simp only [spec_l05Rise.l0, c, h0, if_true, e5, e6]
    refine Ev.bind (spec_l01In_ev _ _ _) ?_
    have hh := ih (i + 1) (by omega) (by omega)
    have hp : prev l (i + 1) = some (rd l i) := by rw [prev, if_neg (by omega)]; congr 2; omega
    rw [hp] at hh
    rw [drop_rd l i h0 c]
    by_cases hb : lo ≤ rd l i ∧ rd l i ≤ up
    · simp only [hb, and_self, decide_true, if_true]
      by_cases hi : i > 0
      · have k1 : 0 ≤ i - 1 := by omega
        have k2 : i - 1 < (l.length : Int) := by omega
        simp only [hi, k1, k2, if_true]
        rw [prev, if_neg (by omega)]
        by_cases hq : rd l (i - 1) ≥ rd l i
        · simp only [hq, if_true]
          apply ev_some
          simp [rise, show ¬ rd l (i - 1) < rd l i by omega]
        · simp only [hq, if_false]
          simpa [rise, hb, show rd l (i - 1) < rd l i by omega] using hh
      · simp only [hi, if_false]
        rw [prev, if_pos (by omega)]
        simpa [rise, hb] using hh
    · simp only [hb, decide_false, Bool.false_eq_true, if_false]
      apply ev_some
      cases prev l i <;> simp [rise, hb]
theorem spec_l05Rise_ev (l : List Int) (lo up : Int) (hl : l.length ≤ 35184372088832) : Ev (fun k => spec_l05Rise.f k l lo up) (rise lo up none l) := by
  simp only [spec_l05Rise.f]
  have := spec_l05Rise_l0 l lo up hl l.length 0 (by omega) (by omega)
  simpa [prev] using this
theorem spec_ConfOk_ev (l : List Int) (hl : l.length ≤ 35184372088832) : Ev (fun k => spec_ConfOk.f k l) (pConfOk l) := by
  simp only [spec_ConfOk.f]
  refine Ev.bind (spec_l01In_ev _ _ _) ?_
  by_cases h : 1 ≤ (l.length : Int) ∧ (l.length : Int) ≤ 4
  · simp only [h, and_self, decide_true, if_true]
    rw [pConfOk, decide_eq_true (by omega), Bool.true_and]
    exact Ev.bind (spec_l05Rise_ev l 1 4 hl) (Ev.now _)
  · simp only [h, decide_false, Bool.false_eq_true, if_false]
    apply ev_some
    cases hc : pConfOk l with
    | false => rfl
    | true => have := confOk_len l hc; omega

theorem spec_ConfText_ev (l : List Int) (hl : l.length ≤ 35184372088832) : Ev (fun k => spec_ConfText.f k l) (pConfText l) := by
  simp only [spec_ConfText.f]
  refine Ev.bind (spec_ConfOk_ev l hl) ?_
  by_cases h : pConfOk l = true
  · simp only [h, if_true]
    rw [pConfText_yes h]
    have key := loop_up (fun k (s : List Int) i => spec_ConfText.l0 k l s i) (l.length : Int) (confB l, true) (fun s i => s = (l.take i.toNat).map fun x => x % 256)
      (fun s hs => by
        subst hs
        have c : ¬ (l.length : Int) < (l.length : Int) := by omega
        simp only [spec_ConfText.l0, c, if_false]
        apply ev_some
        rw [List.take_of_length_le (by omega), confB])
      (fun s i h0 h1 hs ih => by
        have hsl : s.length ≤ l.length := by rw [hs, List.length_map, List.length_take]; omega
        have c3 : s.length < 140737488355328 := by omega
        have e2 : wrap64 (i + 1) = i + 1 := w64 (by omega) (by omega)
        simp only [spec_ConfText.l0, h1, h0, c3, if_true, e2]
        refine ih _ ?_
        rw [map_take_snoc _ l i h0 h1, hs])
    exact key l.length 0 [] (by omega) (by omega) (by simp)
  · simp only [h, if_false]
    rw [pConfText_no h]
    exact Ev.now _

theorem spec_l01Var_l0 (n : Nat) : ∀ xs : List Int, xs.length + n < 140737488355328 → Ev (fun k => spec_l01Var.l0 k (n : Int) xs) (strOfNums (xs ++ varN n)) := by
  induction n using Nat.strongRecOn with
  | ind n ih =>
    intro xs h
    apply ev_succ
    have c2 : xs.length < 140737488355328 := by omega
    by_cases hn : n ≤ 127
    · have c1 : ¬ (n : Int) > 127 := by omega
      simp only [spec_l01Var.l0, c1, c2, if_true, if_false]
      apply ev_some
      rw [varN_small hn, show (n : Int) % 256 = n by omega]
    · have c1 : (n : Int) > 127 := by omega
      simp only [spec_l01Var.l0, c1, c2, if_true, var_div n (by omega), var_mod n]
      have := ih (n / 128) (by omega) (xs ++ [((n % 128 + 128 : Nat) : Int)]) (by simp; omega)
      rw [varN_big hn]
      simpa using this
theorem spec_l01Var_ev (n : Nat) (h : n < 140737488355328) : Ev (fun k => spec_l01Var.f k (n : Int)) (varB n) := by
  simp only [spec_l01Var.f]
  have := spec_l01Var_l0 n [] (by simpa using h)
  simpa [varB] using this

theorem spec_SumMore_l1 (s : ByteArray) (i : Int) (h0 : 0 ≤ i) (h1 : i < s.size) (hs : s.size ≤ 140737488351232) (r : Int) : ∀ (m : Nat) (j x : Int), 0 ≤ j → j + m = 8 →
    Ev (fun k => spec_SumMore.l0 k (crcK m x) s (i + 1)) r → Ev (fun k => spec_SumMore.l1 k x s i j) r := by
  intro m
  induction m with
  | zero =>
    intro j x hj hm h
    apply ev_succ
    have c : ¬ j < 8 := by omega
    have e : wrap64 (i + 1) = i + 1 := w64 (by omega) (by omega)
    simp only [spec_SumMore.l1, c, if_false, e]
    exact h
  | succ m ih =>
    intro j x hj hm h
    apply ev_succ
    have c : j < 8 := by omega
    have e : wrap64 (j + 1) = j + 1 := w64 (by omega) (by omega)
    have hh := ih (j + 1) (crc1 x) (by omega) (by omega) h
    by_cases o : Int.tmod x 2 = 1
    · simp only [crc1, o, if_true] at hh
      simp only [spec_SumMore.l1, c, o, if_true, e]
      exact hh
    · simp only [crc1, o, if_false] at hh
      simp only [spec_SumMore.l1, c, o, if_true, if_false, e]
      exact hh
theorem spec_SumMore_l0 (s : ByteArray) (hs : s.size ≤ 140737488351232) : ∀ (d : Nat) (i : Int) (x : Int), 0 ≤ i → i + d = s.size →
    Ev (fun k => spec_SumMore.l0 k x s i) (crcL x ((bytesOf s).drop i.toNat)) := by
  intro d
  induction d with
  | zero =>
    intro i x h0 h
    apply ev_succ
    have c : ¬ i < (s.size : Int) := by omega
    simp only [spec_SumMore.l0, c, if_false]
    apply ev_some
    rw [List.drop_of_length_le (by rw [bytes_len]; omega)]; rfl
  | succ d ih =>
    intro i x h0 h
    apply ev_succ
    have c : i < (s.size : Int) := by omega
    simp only [spec_SumMore.l0, c, h0, if_true]
    have hh := ih (i + 1) (crcB x (bt s i)) (by omega) (by omega)
    rw [drop_bt s i h0 c]
    exact spec_SumMore_l1 s i h0 c hs _ 8 0 _ (by omega) (by omega) hh
theorem spec_SumMore_ev (x : Int) (s : ByteArray) (hs : s.size ≤ 140737488351232) : Ev (fun k => spec_SumMore.f k x s) (crcL x (bytesOf s)) := by
  simp only [spec_SumMore.f]
  exact spec_SumMore_l0 s hs s.size 0 x (by omega) (by omega)

theorem spec_SumOf_ev (s : ByteArray) (hs : s.size ≤ 140737488351232) : Ev (fun k => spec_SumOf.f k s) (sumN s) := by
  simp only [spec_SumOf.f]
  exact Ev.bind (spec_SumMore_ev _ s hs) (Ev.now _)

theorem spec_l02Four_ev (x : Int) : Ev (fun _ => spec_l02Four.f x) (strOfNums (four x)) := ev_const rfl

theorem spec_Sealed_ev (s : ByteArray) (hs : s.size ≤ 140737488351232) : Ev (fun k => spec_Sealed.f k s) (pSealed s) := by
  simp only [spec_Sealed.f]
  by_cases h : (s.size : Int) > 20000
  · simp only [h, if_true]
    rw [pSealed_no (by omega)]
    exact Ev.now _
  · simp only [h, if_false]
    refine Ev.bind (spec_SumOf_ev s hs) ?_
    refine Ev.bind (spec_l02Four_ev _) ?_
    have c : s.size + (strOfNums (four (sumN s))).size ≤ 9223372036854775807 := by rw [str_len]; simp [four]; omega
    simp only [c, if_true]
    rw [pSealed_yes (by omega)]
    exact Ev.now _

theorem spec_l05Short_ev (s : ByteArray) (hs : s.size ≤ 1048576) : Ev (fun k => spec_l05Short.f k s) (varB s.size ++ s) := by
  simp only [spec_l05Short.f]
  refine Ev.bind (spec_l01Var_ev s.size (by omega)) ?_
  have hv := varB_size5 (n := s.size) (by omega)
  have c : (varB s.size).size + s.size ≤ 9223372036854775807 := by omega
  simp only [c, if_true]
  exact Ev.now _
theorem gt_nat4 {n : Nat} (h : (n : Int) + 4 > 20000) : ¬ n + 4 ≤ 20000 := by omega
theorem le_nat4 {n : Nat} (h : ¬ (n : Int) + 4 > 20000) : n + 4 ≤ 20000 := by omega
theorem lt_nat4 {n : Nat} (h : n + 4 ≤ 20000) : n ≤ 140737488351232 := by omega
theorem le_nat4' {n : Nat} (h : n + 4 ≤ 20000) : n ≤ 20000 := by omega
theorem le_nat {n : Nat} (h : ¬ (n : Int) > 20000) : n ≤ 20000 := by omega
theorem spec_SnapText_ev (idx t : Int) (conf : List Int) (body : ByteArray) (hc : conf.length ≤ 1048576) (hb : body.size ≤ 1048576) : Ev (fun k => spec_SnapText.f k idx t conf body) (pSnapText idx t conf body) := by
  simp only [spec_SnapText.f]
  refine Ev.bind (spec_ConfText_ev conf (by omega)) ?_
  have hno : ∀ x, ¬ snapOk idx t conf body → Ev (fun k => spec_SnapText.j0 k x true idx t conf body) (pSnapText idx t conf body) := by
    intro x hn
    apply ev_succ
    simp only [spec_SnapText.j0, if_true]
    rw [pSnapText_no hn]
    exact Ev.now _
  by_cases h1 : pConfOk conf = true
  · rw [pConfText_yes h1]
    simp only [if_true]
    refine Ev.bind (spec_l01In_ev _ _ _) ?_
    by_cases h3 : 0 ≤ idx ∧ idx ≤ 1000000
    · simp only [h3, and_self, decide_true, if_true]
      refine Ev.bind (spec_l01In_ev _ _ _) ?_
      by_cases h4 : 0 ≤ t ∧ t ≤ 100000
      · simp only [h4, and_self, decide_true, if_true]
        by_cases h2 : (body.size : Int) > 20000
        · simp only [h2, decide_true]
          exact hno _ (fun h => by have := h.2.2.2.1; omega)
        · simp only [h2, decide_false]
          apply ev_succ
          simp only [spec_SnapText.j0, Bool.false_eq_true, if_false]
          have hl := confOk_len conf h1
          have hcs := confB_size conf
          obtain ⟨n, rfl⟩ := Int.eq_ofNat_of_zero_le h3.1
          obtain ⟨m, rfl⟩ := Int.eq_ofNat_of_zero_le h4.1
          have v1 := varB_size5 (n := n) (by omega)
          have v2 := varB_size5 (n := m) (by omega)
          have v3 := varB_size5 (n := (confB conf).size) (by omega)
          have v4 := varB_size5 (n := body.size) (by omega)
          have hz := snapIn_size (n : Int) (m : Int) (confB conf) body
          rw [Int.toNat_natCast, Int.toNat_natCast] at hz
          refine Ev.bind (spec_l01Var_ev n (by omega)) ?_
          refine Ev.bind (spec_l01Var_ev m (by omega)) ?_
          have c1 : (varB n).size + (varB m).size ≤ 9223372036854775807 := by omega
          simp only [c1, if_true]
          refine Ev.bind (spec_l05Short_ev (confB conf) (by omega)) ?_
          have c2 : (varB n ++ varB m).size + (varB (confB conf).size ++ confB conf).size ≤ 9223372036854775807 := by rw [size_app, size_app]; omega
          simp only [c2, if_true]
          refine Ev.bind (spec_l05Short_ev body hb) ?_
          have c3 : ((varB n ++ varB m) ++ (varB (confB conf).size ++ confB conf)).size + (varB body.size ++ body).size ≤ 9223372036854775807 := by rw [size_app, size_app, size_app, size_app]; omega
          have hin : ((varB n ++ varB m) ++ (varB (confB conf).size ++ confB conf)) ++ (varB body.size ++ body) = snapIn (n : Int) (m : Int) (confB conf) body := by rw [snapIn, Int.toNat_natCast, Int.toNat_natCast]
          have e : wrap64 (((snapIn (n : Int) (m : Int) (confB conf) body).size : Int) + 4) = (snapIn (n : Int) (m : Int) (confB conf) body).size + 4 := w64 (by omega) (by omega)
          simp only [c3, if_true, hin, e]
          by_cases h6 : ((snapIn (n : Int) (m : Int) (confB conf) body).size : Int) + 4 > 20000
          · simp only [h6, if_true]
            rw [pSnapText_no (fun h => gt_nat4 h6 h.2.2.2.2)]
            exact Ev.now _
          · simp only [h6, if_false]
            have h7 := le_nat4 h6
            have h8 := le_nat h2
            refine Ev.bind (spec_Sealed_ev _ (lt_nat4 h7)) ?_
            rw [pSealed_yes (le_nat4' h7), pSnapText_yes ⟨h1, h3, h4, h8, h7⟩]
            exact Ev.now _
      · simp only [h4, decide_false, Bool.false_eq_true, if_false]
        exact hno _ (fun h => h4 h.2.2.1)
    · simp only [h3, decide_false, Bool.false_eq_true, if_false]
      exact hno _ (fun h => h3 h.2.1)
  · rw [pConfText_no h1]
    simp only [Bool.false_eq_true, if_false]
    exact hno _ (fun h => h1 h.1)

theorem FnExactSnapText : OpenFnExactSnapText.Stmt := by
  intro a b l s ha hb hl hs
  apply ev_rounds
  simp only [laws_FnExactSnapText.f]
  obtain ⟨r, hr, hrr⟩ := laws_szSnap_ev a b l s hl.1 hs
  refine Ev.bind hr ?_
  rcases hrr with hn | ⟨hn, he⟩
  · simp only [hn, if_true]
    exact Ev.now _
  · have hn' : ¬ r < 0 := by omega
    simp only [hn', if_false]
    have hlen : l.length ≤ 1048576 := by omega
    have hsz : s.size ≤ 1048576 := by omega
    have ht := laws_toSnap_ev a b l s hlen
    refine Ev.bind ht ?_
    refine Ev.bind (spec_SnapText_ev a b l s hlen hsz) ?_
    refine Ev.bind ht ?_
    refine Ev.bind (impl_SnapText_ev a b l s hlen hsz) ?_
    simp only [if_true, bne_self_eq_false]
    apply ev_succ
    simp only [laws_FnExactSnapText.j0, Bool.false_eq_true, if_false]
    refine Ev.bind ht ?_
    refine Ev.bind (laws_eqSnap_ev a b l s hlen) ?_
    simp

end Go.Proofs.Ytmbceckgdhobjaa.Pure
