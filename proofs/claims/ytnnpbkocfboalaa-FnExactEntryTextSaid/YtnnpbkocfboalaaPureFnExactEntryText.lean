/- EntryText of the program and of the reference give the same text and flag for every index and entry. -/
import Derived.Test.YtnnpbkocfboalaaOpenFnExactEntryText
import Derived.Test.YtnnpbkocfboalaaBaseL
import Derived.Test.YtnnpbkocfboalaaBaseF
namespace Go.Proofs.Ytnnpbkocfboalaa.Pure
open Go.RowKit Go.Proofs.Ytnnpbkocfboalaa.QFnExactEntryText Go.Proofs.YtnnpbkocfboalaaW.PrintWords Go.Proofs.YtnnpbkocfboalaaW.PrintLast Go.Proofs.YtnnpbkocfboalaaW.PrintMore Go.Proofs.Ytnnpbkocfboalaa.Base
set_option linter.unusedVariables false
set_option linter.unusedSimpArgs false

theorem laws_szEntry_e (t kd : Int) (s : ByteArray) (hs : s.size ≤ 9223372036854775807) : Ev (fun _ => laws_szEntry.f t kd s 1048576) (if 1048576 - (s.size : Int) < 0 then -1 else 1048576 - s.size) := by
  have e : wrap64 (1048576 - (s.size : Int)) = 1048576 - s.size := w64 (by omega) (by omega)
  apply ev_const
  simp only [laws_szEntry.f, e]
  split <;> rfl

theorem impl_within_ev (a b c : Int) : Ev (fun _ => impl_within.f a b c) (decide (b ≤ a ∧ a ≤ c)) := by
  apply ev_const
  unfold impl_within.f
  by_cases h : a ≥ b
  · rw [if_pos h]; simp [show b ≤ a from h]
  · rw [if_neg h]; simp [show ¬ b ≤ a from h]

theorem impl_isNode_ev (x : Int) : Ev (fun _ => impl_isNode.f x) (decide (1 ≤ x ∧ x ≤ 4)) := by
  simp only [impl_isNode.f]
  exact Ev.bind (impl_within_ev _ _ _) (Ev.now _)
theorem impl_nodesOk_l0 (l : List Int) (hl : l.length ≤ 35184372088832) : ∀ (d : Nat) (i : Int), 0 ≤ i → i + d = l.length →
    Ev (fun k => impl_nodesOk.l0 k l l (l.length : Int) i) (rise 1 4 (prev l i) (l.drop i.toNat)) := by
  intro d
  induction d with
  | zero =>
    intro i h0 h
    apply ev_succ
    have c : ¬ i < (l.length : Int) := by omega
    simp only [impl_nodesOk.l0, c, if_false]
    apply ev_some
    rw [List.drop_of_length_le (by omega)]; simp [rise]
  | succ d ih =>
    intro i h0 h
    apply ev_succ
    have c : i < (l.length : Int) := by omega
    have e5 : wrap64 (i + 1) = i + 1 := w64 (by omega) (by omega)
    have e6 : wrap64 (i - 1) = i - 1 := w64 (by omega) (by omega)
    simp only [impl_nodesOk.l0, c, h0, if_true, e5, e6]
    refine Ev.bind (impl_isNode_ev _) ?_
    have hh := ih (i + 1) (by omega) (by omega)
    have hp : prev l (i + 1) = some (rd l i) := by rw [prev, if_neg (by omega)]; congr 2; omega
    rw [hp] at hh
    rw [drop_rd l i h0 c]
    by_cases hb : 1 ≤ rd l i ∧ rd l i ≤ 4
    · simp only [hb, and_self, decide_true, if_true]
      by_cases hi : i > 0
      · have k1 : 0 ≤ i - 1 := by omega
        have k2 : i - 1 < (l.length : Int) := by omega
        simp only [hi, k1, k2, if_true]
        rw [prev, if_neg (by omega)]
        by_cases hq : rd l (i - 1) ≥ rd l i
        · simp only [hq, if_true]
          apply ev_some
          simp [rise, show ¬ rd l (i - 1) < rd l i by omega]
        · simp only [hq, if_false]
          simpa [rise, hb, show rd l (i - 1) < rd l i by omega] using hh
      · simp only [hi, if_false]
        rw [prev, if_pos (by omega)]
        simpa [rise, hb] using hh
    · simp only [hb, decide_false, Bool.false_eq_true, if_false]
      apply ev_some
      cases prev l i <;> simp [rise, hb]
theorem impl_nodesOk_ev (l : List Int) (hl : l.length ≤ 35184372088832) : Ev (fun k => impl_nodesOk.f k l) (rise 1 4 none l) := by
  simp only [impl_nodesOk.f]
  have := impl_nodesOk_l0 l hl l.length 0 (by omega) (by omega)
  simpa [prev] using this
theorem impl_ConfOk_ev (l : List Int) (hl : l.length ≤ 35184372088832) : Ev (fun k => impl_ConfOk.f k l) (pConfOk l) := by
  simp only [impl_ConfOk.f]
  by_cases h : (l.length : Int) > 0
  · simp only [h, if_true]
    rw [pConfOk, decide_eq_true (by omega), Bool.true_and]
    exact Ev.bind (impl_nodesOk_ev l hl) (Ev.now _)
  · simp only [h, if_false]
    rw [pConfOk, decide_eq_false (by omega), Bool.false_and]
    exact Ev.now _

theorem impl_ReadConf_ev (s : ByteArray) (hs : s.size ≤ 1048576) : Ev (fun k => impl_ReadConf.f k s) (pReadConf s) := by
  simp only [impl_ReadConf.f]
  have key := loop_up (fun k (x : List Int) i => impl_ReadConf.l0 k s x i) (s.size : Int) (pReadConf s) (fun x i => x = (bytesOf s).take i.toNat)
    (fun x hx => by
      rw [List.take_of_length_le (by rw [bytes_len]; omega)] at hx
      subst hx
      have c : ¬ (s.size : Int) < (s.size : Int) := by omega
      simp only [impl_ReadConf.l0, c, if_false]
      refine Ev.bind (impl_ConfOk_ev _ (by rw [bytes_len]; omega)) ?_
      by_cases h : pConfOk (bytesOf s) = true
      · simp only [h, if_true]
        rw [pReadConf_yes h]
        exact Ev.now _
      · simp only [h, if_false]
        rw [pReadConf_no h]
        exact Ev.now _)
    (fun x i h0 h1 hx ih => by
      have hxl : x.length ≤ s.size := by rw [hx, List.length_take, bytes_len]; omega
      have c3 : x.length < 17592186044416 := by omega
      have br := bt_range s i
      have e1 : wrap64 (bt s i) = bt s i := w64 (by omega) (by omega)
      have e2 : wrap64 (i + 1) = i + 1 := w64 (by omega) (by omega)
      simp only [impl_ReadConf.l0, h1, h0, c3, if_true, e1, e2]
      refine ih _ ?_
      rw [take_snoc_rd _ i h0 (by rw [bytes_len]; exact h1), hx, bt_rd]
      rfl)
  exact key s.size 0 [] (by omega) (by omega) (by simp)

theorem impl_isTerm_ev (x : Int) : Ev (fun _ => impl_isTerm.f x) (decide (0 ≤ x ∧ x ≤ 100000)) := by
  simp only [impl_isTerm.f]
  exact Ev.bind (impl_within_ev _ _ _) (Ev.now _)
theorem impl_EntryOk_ev (t kd : Int) (s : ByteArray) (hs : s.size ≤ 1048576) : Ev (fun k => impl_EntryOk.f k t kd s) (pEntryOk t kd s) := by
  simp only [impl_EntryOk.f]
  by_cases ht : 0 ≤ t ∧ t ≤ 100000
  · have hd : decide (0 ≤ t ∧ t ≤ 100000) = true := decide_eq_true ht
    by_cases c1 : kd = 1
    · simp only [c1, if_true]
      refine Ev.bind (impl_isTerm_ev t) ?_
      simp [pEntryOk, hd]
    · by_cases c2 : kd = 2
      · simp only [c2, if_true, show ¬ (2 : Int) = 1 by decide, if_false]
        refine Ev.bind (impl_ReadConf_ev s hs) ?_
        refine Ev.bind (impl_isTerm_ev t) ?_
        by_cases h : pConfOk (bytesOf s) = true
        · simp [pEntryOk, hd, pReadConf_yes h, h]
        · simp [pEntryOk, hd, pReadConf_no h, h]
      · by_cases c3 : kd = 3
        · simp only [c3, if_true, show ¬ (3 : Int) = 1 by decide, show ¬ (3 : Int) = 2 by decide, if_false]
          refine Ev.bind (impl_isTerm_ev t) ?_
          simp [pEntryOk, hd]
        · simp [pEntryOk, c1, c2, c3]
  · have hd : decide (0 ≤ t ∧ t ≤ 100000) = false := decide_eq_false ht
    have hp : pEntryOk t kd s = false := by rw [pEntryOk, hd, Bool.false_and]
    rw [hp]
    by_cases c1 : kd = 1
    · simp only [c1, if_true]
      refine Ev.bind (impl_isTerm_ev t) ?_
      simp [hd]
    · by_cases c2 : kd = 2
      · simp only [c2, if_true, show ¬ (2 : Int) = 1 by decide, if_false]
        refine Ev.bind (impl_ReadConf_ev s hs) ?_
        refine Ev.bind (impl_isTerm_ev t) ?_
        simp [hd]
      · by_cases c3 : kd = 3
        · simp only [c3, if_true, show ¬ (3 : Int) = 1 by decide, show ¬ (3 : Int) = 2 by decide, if_false]
          refine Ev.bind (impl_isTerm_ev t) ?_
          simp [hd]
        · simp [c1, c2, c3]

theorem impl_VarText_l0 (n : Nat) : ∀ xs : List Int, xs.length + n < 140737488355328 → Ev (fun k => impl_VarText.l0 k (n : Int) xs) (strOfNums (xs ++ varN n), true) := by
  induction n using Nat.strongRecOn with
  | ind n ih =>
    intro xs h
    apply ev_succ
    have c2 : xs.length < 140737488355328 := by omega
    by_cases hn : n ≤ 127
    · have c1 : ¬ (n : Int) > 127 := by omega
      simp only [impl_VarText.l0, c1, c2, if_true, if_false]
      apply ev_some
      rw [varN_small hn, show (n : Int) % 256 = n by omega]
    · have c1 : (n : Int) > 127 := by omega
      simp only [impl_VarText.l0, c1, c2, if_true, var_div n (by omega), var_mod n]
      have := ih (n / 128) (by omega) (xs ++ [((n % 128 + 128 : Nat) : Int)]) (by simp; omega)
      rw [varN_big hn]
      simpa using this
theorem impl_VarText_ev (n : Int) : Ev (fun k => impl_VarText.f k n) (pVarText n) := by
  simp only [impl_VarText.f]
  refine Ev.bind (impl_within_ev _ _ _) ?_
  by_cases h : 0 ≤ n ∧ n ≤ 1000000000
  · simp only [h, and_self, decide_true, if_true]
    obtain ⟨m, rfl⟩ := Int.eq_ofNat_of_zero_le h.1
    have := impl_VarText_l0 m [] (by simp; omega)
    rw [pVarText_yes h]
    simpa [varB] using this
  · simp only [h, decide_false, Bool.false_eq_true, if_false]
    rw [pVarText_no h]
    exact Ev.now _

theorem impl_varTexts_ev (l : List Int) (hl : l.length ≤ 1048576) : Ev (fun k => impl_varTexts.f k l) (varsB l) := by
  simp only [impl_varTexts.f]
  have key := loop_up (fun k (s : ByteArray) i => impl_varTexts.l0 k s l (l.length : Int) i) (l.length : Int) (varsB l) (fun s i => s = varsB (l.take i.toNat))
    (fun s hs => by
      rw [List.take_of_length_le (by omega)] at hs
      have c : ¬ (l.length : Int) < (l.length : Int) := by omega
      simp only [impl_varTexts.l0, c, if_false]
      exact ev_some hs)
    (fun s i h0 h1 hs ih => by
      have hz := varsB_size (l.take i.toNat)
      rw [List.length_take] at hz
      have hv := pVarText_size (rd l i)
      have e2 : wrap64 (i + 1) = i + 1 := w64 (by omega) (by omega)
      have c3 : s.size + (pVarText (rd l i)).1.size ≤ 9223372036854775807 := by rw [hs]; omega
      simp only [impl_varTexts.l0, h1, h0, if_true, e2]
      refine Ev.bind (impl_VarText_ev _) ?_
      simp only [c3, if_true]
      refine ih _ ?_
      rw [take_snoc_rd l i h0 h1, varsB_snoc, hs])
  exact key l.length 0 ⟨#[]⟩ (by omega) (by omega) (by simp [varsB])

theorem impl_byteTexts_ev (l : List Int) (hl : l.length ≤ 35184372088832) : Ev (fun k => impl_byteTexts.f k l) (confB l) := by
  simp only [impl_byteTexts.f]
  have key := loop_up (fun k (s : List Int) i => impl_byteTexts.l0 k s l (l.length : Int) i) (l.length : Int) (confB l) (fun s i => s = (l.take i.toNat).map fun x => x % 256)
    (fun s hs => by
      subst hs
      have c : ¬ (l.length : Int) < (l.length : Int) := by omega
      simp only [impl_byteTexts.l0, c, if_false]
      apply ev_some
      rw [List.take_of_length_le (by omega), confB])
    (fun s i h0 h1 hs ih => by
      have hsl : s.length ≤ l.length := by rw [hs, List.length_map, List.length_take]; omega
      have c3 : s.length < 140737488355328 := by omega
      have e2 : wrap64 (i + 1) = i + 1 := w64 (by omega) (by omega)
      simp only [impl_byteTexts.l0, h1, h0, c3, if_true, e2]
      refine ih _ ?_
      rw [map_take_snoc _ l i h0 h1, hs])
  exact key l.length 0 [] (by omega) (by omega) (by simp)

theorem impl_EntryText_ev (idx t kd : Int) (s : ByteArray) (hs : s.size ≤ 1048576) : Ev (fun k => impl_EntryText.f k idx t kd s) (pEntryText idx t kd s) := by
  simp only [impl_EntryText.f]
  refine Ev.bind (impl_EntryOk_ev t kd s hs) ?_
  have hno : ¬ (pEntryOk t kd s = true ∧ 1 ≤ idx ∧ idx ≤ 1000000) → Ev (fun k => impl_EntryText.j0 k idx true t kd s) (pEntryText idx t kd s) := by
    intro hn
    apply ev_succ
    simp only [impl_EntryText.j0, if_true]
    rw [pEntryText_no hn]
    exact Ev.now _
  by_cases ho : pEntryOk t kd s = true
  · simp only [ho, if_true]
    refine Ev.bind (impl_within_ev _ _ _) ?_
    by_cases hi : 1 ≤ idx ∧ idx ≤ 1000000
    · simp only [hi, and_self, decide_true, Bool.not_true]
      have ht := pEntryOk_term ho
      rw [pEntryText_yes ⟨ho, hi⟩]
      apply ev_succ
      simp only [impl_EntryText.j0, Bool.false_eq_true, if_false]
      have h5 := varB_size5 (n := idx.toNat) (by omega)
      have h6 := varB_size5 (n := t.toNat) (by omega)
      have h1 : (⟨#[69]⟩ : ByteArray).size = 1 := rfl
      refine Ev.bind (impl_varTexts_ev [idx, t] (by simp)) ?_
      rw [varsB_two idx t (by omega) (by omega)]
      have c1 : 1 + (varB idx.toNat ++ varB t.toNat).size ≤ 9223372036854775807 := by rw [size_app]; omega
      simp only [c1, if_true]
      refine Ev.bind (impl_byteTexts_ev [kd] (by simp)) ?_
      rw [confB_one]
      have c2 : ((⟨#[69]⟩ : ByteArray) ++ (varB idx.toNat ++ varB t.toNat)).size + (strOfNums [kd % 256]).size ≤ 9223372036854775807 := by rw [size_app, size_app, one_size, h1]; omega
      have c3 : (((⟨#[69]⟩ : ByteArray) ++ (varB idx.toNat ++ varB t.toNat)) ++ strOfNums [kd % 256]).size + s.size ≤ 9223372036854775807 := by rw [size_app, size_app, size_app, one_size, h1]; omega
      simp only [c2, c3, if_true]
      apply ev_some
      rw [entB, app_assoc (⟨#[69]⟩ : ByteArray) (varB idx.toNat) (varB t.toNat)]
    · simp only [hi, decide_false, Bool.not_false]
      exact hno (fun h => hi h.2)
  · simp only [ho, if_false]
    exact hno (fun h => ho h.1)

theorem spec_l01In_ev (a b c : Int) : Ev (fun _ => spec_l01In.f a b c) (decide (b ≤ a ∧ a ≤ c)) := by
  apply ev_const
  unfold spec_l01In.f
  by_cases h : a ≥ b
  · rw [if_pos h]; simp [show b ≤ a from h]
  · rw [if_neg h]; simp [show ¬ b ≤ a from h]

theorem spec_l05Rise_l0 (l : List Int) (lo up : Int) (hl : l.length ≤ 35184372088832) : ∀ (d : Nat) (i : Int), 0 ≤ i → i + d = l.length →
    Ev (fun k => spec_l05Rise.l0 k l lo up i) (rise lo up (prev l i) (l.drop i.toNat)) := by
  intro d
  induction d with
  | zero =>
    intro i h0 h
    apply ev_succ
    have c : ¬ i < (l.length : Int) := by omega
    simp only [spec_l05Rise.l0, c, if_false]
    apply ev_some
    rw [List.drop_of_length_le (by omega)]; simp [rise]
  | succ d ih =>
    intro i h0 h
    apply ev_succ
    have c : i < (l.length : Int) := by omega
    have e5 : wrap64 (i + 1) = i + 1 := w64 (by omega) (by omega)
    have e6 : wrap64 (i - 1) = i - 1 := w64 (by omega) (by omega)
    simp only [spec_l05Rise.l0, c, h0, if_true, e5, e6]
    refine Ev.bind (spec_l01In_ev _ _ _) ?_
    have hh := ih (i + 1) (by omega) (by omega)
    have hp : prev l (i + 1) = some (rd l i) := by rw [prev, if_neg (by omega)]; congr 2; omega
    rw [hp] at hh
    rw [drop_rd l i h0 c]
    by_cases hb : lo ≤ rd l i ∧ rd l i ≤ up
    · simp only [hb, and_self, decide_true, if_true]
      by_cases hi : i > 0
      · have k1 : 0 ≤ i - 1 := by omega
        have k2 : i - 1 < (l.length : Int) := by omega
        simp only [hi, k1, k2, if_true]
        rw [prev, if_neg (by omega)]
        by_cases hq : rd l (i - 1) ≥ rd l i
        · simp only [hq, if_true]
          apply ev_some
          simp [rise, show ¬ rd l (i - 1) < rd l i by omega]
        · simp only [hq, if_false]
          simpa [rise, hb, show rd l (i - 1) < rd l i by omega] using hh
      · simp only [hi, if_false]
        rw [prev, if_pos (by omega)]
        simpa [rise, hb] using hh
    · simp only [hb, decide_false, Bool.false_eq_true, if_false]
      apply ev_some
      cases prev l i <;> simp [rise, hb]
theorem spec_l05Rise_ev (l : List Int) (lo up : Int) (hl : l.length ≤ 35184372088832) : Ev (fun k => spec_l05Rise.f k l lo up) (rise lo up none l) := by
  simp only [spec_l05Rise.f]
  have := spec_l05Rise_l0 l lo up hl l.length 0 (by omega) (by omega)
  simpa [prev] using this
theorem spec_ConfOk_ev (l : List Int) (hl : l.length ≤ 35184372088832) : Ev (fun k => spec_ConfOk.f k l) (pConfOk l) := by
  simp only [spec_ConfOk.f]
  refine Ev.bind (spec_l01In_ev _ _ _) ?_
  by_cases h : 1 ≤ (l.length : Int) ∧ (l.length : Int) ≤ 4
  · simp only [h, and_self, decide_true, if_true]
    rw [pConfOk, decide_eq_true (by omega), Bool.true_and]
    exact Ev.bind (spec_l05Rise_ev l 1 4 hl) (Ev.now _)
  · simp only [h, decide_false, Bool.false_eq_true, if_false]
    apply ev_some
    cases hc : pConfOk l with
    | false => rfl
    | true => have := confOk_len l hc; omega

theorem spec_ReadConf_end (s : ByteArray) (hs : s.size ≤ 1048576) (x : List Int) (hx : x = (bytesOf s).take 5) :
    Ev (fun k => if (x.length : Int) = (s.size : Int) then ((spec_ConfOk.f k x).bind fun t => (if t = true then (some (x, true)) else (some ((([] : List Int)), false)))) else (some ((([] : List Int)), false))) (pReadConf s) := by
  have hxl : x.length = min 5 s.size := by rw [hx, List.length_take, bytes_len]
  by_cases h5 : s.size ≤ 5
  · rw [List.take_of_length_le (by rw [bytes_len]; omega)] at hx
    have c : (x.length : Int) = (s.size : Int) := by omega
    simp only [c, if_true]
    subst hx
    refine Ev.bind (spec_ConfOk_ev _ (by rw [bytes_len]; omega)) ?_
    by_cases h : pConfOk (bytesOf s) = true
    · simp only [h, if_true]
      rw [pReadConf_yes h]
      exact Ev.now _
    · simp only [h, if_false]
      rw [pReadConf_no h]
      exact Ev.now _
  · have c : ¬ (x.length : Int) = (s.size : Int) := by omega
    simp only [c, if_false]
    have hn : ¬ pConfOk (bytesOf s) = true := by
      intro h
      have := confOk_len _ h
      rw [bytes_len] at this
      omega
    rw [pReadConf_no hn]
    exact Ev.now _
theorem spec_ReadConf_ev (s : ByteArray) (hs : s.size ≤ 1048576) : Ev (fun k => spec_ReadConf.f k s) (pReadConf s) := by
  simp only [spec_ReadConf.f]
  have key := loop_up (fun k (x : List Int) i => spec_ReadConf.l0 k s x i) ((min 5 s.size : Nat) : Int) (pReadConf s) (fun x i => x = (bytesOf s).take i.toNat)
    (fun x hx => by
      have hx' : x = (bytesOf s).take 5 := by
        rw [hx, Int.toNat_natCast]
        by_cases h5 : s.size ≤ 5
        · rw [List.take_of_length_le (by rw [bytes_len]; omega), List.take_of_length_le (by rw [bytes_len]; omega)]
        · rw [show min 5 s.size = 5 by omega]
      have he := spec_ReadConf_end s hs x hx'
      by_cases c : ((min 5 s.size : Nat) : Int) < (s.size : Int)
      · have c2 : ¬ ((min 5 s.size : Nat) : Int) ≤ 4 := by omega
        simp only [spec_ReadConf.l0, c, c2, if_true, if_false]
        exact he
      · simp only [spec_ReadConf.l0, c, if_false]
        exact he)
    (fun x i h0 h1 hx ih => by
      have hxl : x.length ≤ s.size := by rw [hx, List.length_take, bytes_len]; omega
      have c1 : i < (s.size : Int) := by omega
      have c2 : i ≤ 4 := by omega
      have c3 : x.length < 17592186044416 := by omega
      have br := bt_range s i
      have e1 : wrap64 (bt s i) = bt s i := w64 (by omega) (by omega)
      have e2 : wrap64 (i + 1) = i + 1 := w64 (by omega) (by omega)
      simp only [spec_ReadConf.l0, c1, c2, h0, c3, if_true, e1, e2]
      refine ih _ ?_
      rw [take_snoc_rd _ i h0 (by rw [bytes_len]; exact c1), hx, bt_rd]
      rfl)
  exact key (min 5 s.size) 0 [] (by omega) (by omega) (by simp)

theorem spec_EntryOk_ev (t kd : Int) (s : ByteArray) (hs : s.size ≤ 1048576) : Ev (fun k => spec_EntryOk.f k t kd s) (pEntryOk t kd s) := by
  simp only [spec_EntryOk.f]
  refine Ev.bind (spec_l01In_ev _ _ _) ?_
  by_cases ht : 0 ≤ t ∧ t ≤ 100000
  · have hd : decide (0 ≤ t ∧ t ≤ 100000) = true := decide_eq_true ht
    simp only [hd, if_true]
    by_cases c1 : kd = 1
    · simp [pEntryOk, hd, c1]
    · by_cases c2 : kd = 2
      · simp only [c2, if_true, show ¬ (2 : Int) = 1 by decide, if_false]
        refine Ev.bind (spec_ReadConf_ev s hs) ?_
        by_cases h : pConfOk (bytesOf s) = true
        · simp [pEntryOk, hd, pReadConf_yes h, h]
        · simp [pEntryOk, hd, pReadConf_no h, h]
      · by_cases c3 : kd = 3
        · simp [pEntryOk, hd, c3]
        · simp [pEntryOk, c1, c2, c3]
  · have hd : decide (0 ≤ t ∧ t ≤ 100000) = false := decide_eq_false ht
    simp [pEntryOk, hd]

theorem spec_l01Var_l0 (n : Nat) : ∀ xs : List Int, xs.length + n < 140737488355328 → Ev (fun k => spec_l01Var.l0 k (n : Int) xs) (strOfNums (xs ++ varN n)) := by
  induction n using Nat.strongRecOn with
  | ind n ih =>
    intro xs h
    apply ev_succ
    have c2 : xs.length < 140737488355328 := by omega
    by_cases hn : n ≤ 127
    · have c1 : ¬ (n : Int) > 127 := by omega
      simp only [spec_l01Var.l0, c1, c2, if_true, if_false]
      apply ev_some
      rw [varN_small hn, show (n : Int) % 256 = n by omega]
    · have c1 : (n : Int) > 127 := by omega
      simp only [spec_l01Var.l0, c1, c2, if_true, var_div n (by omega), var_mod n]
      have := ih (n / 128) (by omega) (xs ++ [((n % 128 + 128 : Nat) : Int)]) (by simp; omega)
      rw [varN_big hn]
      simpa using this
theorem spec_l01Var_ev (n : Nat) (h : n < 140737488355328) : Ev (fun k => spec_l01Var.f k (n : Int)) (varB n) := by
  simp only [spec_l01Var.f]
  have := spec_l01Var_l0 n [] (by simpa using h)
  simpa [varB] using this

theorem spec_EntryText_ev (idx t kd : Int) (s : ByteArray) (hs : s.size ≤ 1048576) : Ev (fun k => spec_EntryText.f k idx t kd s) (pEntryText idx t kd s) := by
  simp only [spec_EntryText.f]
  refine Ev.bind (spec_EntryOk_ev t kd s hs) ?_
  have hno : ¬ (pEntryOk t kd s = true ∧ 1 ≤ idx ∧ idx ≤ 1000000) → Ev (fun k => spec_EntryText.j0 k idx true t kd s) (pEntryText idx t kd s) := by
    intro hn
    apply ev_succ
    simp only [spec_EntryText.j0, if_true]
    rw [pEntryText_no hn]
    exact Ev.now _
  by_cases ho : pEntryOk t kd s = true
  · simp only [ho, if_true]
    refine Ev.bind (spec_l01In_ev _ _ _) ?_
    by_cases hi : 1 ≤ idx ∧ idx ≤ 1000000
    · simp only [hi, and_self, decide_true, Bool.not_true]
      have ht := pEntryOk_term ho
      rw [pEntryText_yes ⟨ho, hi⟩]
      obtain ⟨n, rfl⟩ := Int.eq_ofNat_of_zero_le (show 0 ≤ idx by omega)
      obtain ⟨m, rfl⟩ := Int.eq_ofNat_of_zero_le ht.1
      apply ev_succ
      simp only [spec_EntryText.j0, Bool.false_eq_true, if_false]
      have h5 := varB_size5 (n := n) (by omega)
      have h6 := varB_size5 (n := m) (by omega)
      have h1 : (⟨#[69]⟩ : ByteArray).size = 1 := rfl
      refine Ev.bind (spec_l01Var_ev n (by omega)) ?_
      have c1 : 1 + (varB n).size ≤ 9223372036854775807 := by omega
      simp only [c1, if_true]
      refine Ev.bind (spec_l01Var_ev m (by omega)) ?_
      have c2 : ((⟨#[69]⟩ : ByteArray) ++ varB n).size + (varB m).size ≤ 9223372036854775807 := by rw [size_app, h1]; omega
      have c3 : (((⟨#[69]⟩ : ByteArray) ++ varB n) ++ varB m).size + (strOfNums [kd % 256]).size ≤ 9223372036854775807 := by rw [size_app, size_app, one_size, h1]; omega
      have c4 : ((((⟨#[69]⟩ : ByteArray) ++ varB n) ++ varB m) ++ strOfNums [kd % 256]).size + s.size ≤ 9223372036854775807 := by rw [size_app, size_app, size_app, one_size, h1]; omega
      simp only [Option.bind_some, c2, c3, c4, if_true]
      apply ev_some
      rfl
    · simp only [hi, decide_false, Bool.not_false]
      exact hno (fun h => hi h.2)
  · simp only [ho, if_false]
    exact hno (fun h => ho h.1)

theorem FnExactEntryText : OpenFnExactEntryText.Stmt := by
  intro idx t kd s h h0 h1 h2
  apply ev_rounds
  simp only [laws_FnExactEntryText.f]
  refine Ev.bind (laws_szEntry_e t kd s h2) ?_
  by_cases c : 1048576 - (s.size : Int) < 0
  · simp only [c, if_true, show (-1 : Int) < 0 by decide]
    exact Ev.now _
  · simp only [c, if_false]
    have ht : Ev (fun _ => laws_toEntry.f t kd s) (t, kd, s) := ev_const rfl
    refine Ev.bind ht ?_
    refine Ev.bind (spec_EntryText_ev idx t kd s (by omega)) ?_
    refine Ev.bind ht ?_
    refine Ev.bind (impl_EntryText_ev idx t kd s (by omega)) ?_
    simp

end Go.Proofs.Ytnnpbkocfboalaa.Pure
