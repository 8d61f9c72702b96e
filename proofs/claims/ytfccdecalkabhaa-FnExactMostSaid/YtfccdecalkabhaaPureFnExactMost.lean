/- Most of the program and of the reference answer the same for every two lists, which stay as they are. -/
import Derived.Test.YtfccdecalkabhaaPFnExactMostx2
import Derived.Test.YtfccdecalkabhaaBaseL
import Derived.Test.YtfccdecalkabhaaBaseS
namespace Go.Proofs.Ytfccdecalkabhaa.Pure
open Go.RowKit Go.Proofs.Ytfccdecalkabhaa.PFnExactMost Go.Proofs.YtfccdecalkabhaaW.PrintWords Go.Proofs.YtfccdecalkabhaaW.PrintLast Go.Proofs.YtfccdecalkabhaaW.PrintMore Go.Proofs.Ytfccdecalkabhaa.Base
set_option linter.unusedVariables false
set_option linter.unusedSimpArgs false

theorem impl_within_ev (a b c : Int) : Ev (fun _ => impl_within.f a b c) (decide (b ≤ a ∧ a ≤ c)) := by
  apply ev_const
  unfold impl_within.f
  by_cases h : a ≥ b
  · rw [if_pos h]; simp [show b ≤ a from h]
  · rw [if_neg h]; simp [show ¬ b ≤ a from h]

theorem impl_isNode_ev (x : Int) : Ev (fun _ => impl_isNode.f x) (decide (1 ≤ x ∧ x ≤ 4)) := by
  simp only [impl_isNode.f]
  exact Ev.bind (impl_within_ev _ _ _) (Ev.now _)
theorem impl_nodesOk_l0 (l : List Int) (hl : l.length ≤ 35184372088832) : ∀ (d : Nat) (i : Int), 0 ≤ i → i + d = l.length →
    Ev (fun k => impl_nodesOk.l0 k l l (l.length : Int) i) (rise 1 4 (prev l i) (l.drop i.toNat)) := by
  intro d
  induction d with
  | zero =>
    intro i h0 h
    apply ev_succ
    have c : ¬ i < (l.length : Int) := by omega
    simp only [impl_nodesOk.l0, c, if_false]
    apply ev_some
    rw [List.drop_of_length_le (by omega)]; simp [rise]
  | succ d ih =>
    intro i h0 h
    apply ev_succ
    have c : i < (l.length : Int) := by omega
    have e5 : wrap64 (i + 1) = i + 1 := w64 (by omega) (by omega)
    have e6 : wrap64 (i - 1) = i - 1 := w64 (by omega) (by omega)
    simp only [impl_nodesOk.l0, c, h0, if_true, e5, e6]
    refine Ev.bind (impl_isNode_ev _) ?_
    have hh := ih (i + 1) (by omega) (by omega)
    have hp : prev l (i + 1) = some (rd l i) := by rw [prev, if_neg (by omega)]; congr 2; omega
    rw [hp] at hh
    rw [drop_rd l i h0 c]
    by_cases hb : 1 ≤ rd l i ∧ rd l i ≤ 4
    · simp only [hb, and_self, decide_true, if_true]
      by_cases hi : i > 0
      · have k1 : 0 ≤ i - 1 := by omega
        have k2 : i - 1 < (l.length : Int) := by omega
        simp only [hi, k1, k2, if_true]
        rw [prev, if_neg (by omega)]
        by_cases hq : rd l (i - 1) ≥ rd l i
        · simp only [hq, if_true]
          apply ev_some
          simp [rise, show ¬ rd l (i - 1) < rd l i by omega]
        · simp only [hq, if_false]
          simpa [rise, hb, show rd l (i - 1) < rd l i by omega] using hh
      · simp only [hi, if_false]
        rw [prev, if_pos (by omega)]
        simpa [rise, hb] using hh
    · simp only [hb, decide_false, Bool.false_eq_true, if_false]
      apply ev_some
      cases prev l i <;> simp [rise, hb]
theorem impl_nodesOk_ev (l : List Int) (hl : l.length ≤ 35184372088832) : Ev (fun k => impl_nodesOk.f k l) (rise 1 4 none l) := by
  simp only [impl_nodesOk.f]
  have := impl_nodesOk_l0 l hl l.length 0 (by omega) (by omega)
  simpa [prev] using this
theorem impl_ConfOk_ev (l : List Int) (hl : l.length ≤ 35184372088832) : Ev (fun k => impl_ConfOk.f k l) (pConfOk l) := by
  simp only [impl_ConfOk.f]
  by_cases h : (l.length : Int) > 0
  · simp only [h, if_true]
    rw [pConfOk, decide_eq_true (by omega), Bool.true_and]
    exact Ev.bind (impl_nodesOk_ev l hl) (Ev.now _)
  · simp only [h, if_false]
    rw [pConfOk, decide_eq_false (by omega), Bool.false_and]
    exact Ev.now _

theorem slices_Index_ev (l : List Int) (v : Int) (hl : l.length ≤ 35184372088832) : ∃ r : Int, Ev (fun k => slices_Index_int_int.f k l v) r ∧ (0 ≤ r ↔ v ∈ l) := by
  simp only [slices_Index_int_int.f]
  have key : ∀ (d : Nat) (i : Int), 0 ≤ i → i + d = l.length → v ∉ l.take i.toNat → ∃ r : Int, Ev (fun k => slices_Index_int_int.l0 k l v (l.length : Int) i) r ∧ (0 ≤ r ↔ v ∈ l) := by
    intro d
    induction d with
    | zero =>
      intro i h0 h hn
      refine ⟨-1, ev_succ ?_, ?_⟩
      · have c : ¬ i < (l.length : Int) := by omega
        simp only [slices_Index_int_int.l0, c, if_false]
        exact Ev.now _
      · rw [List.take_of_length_le (by omega)] at hn
        simp [hn]
    | succ d ih =>
      intro i h0 h hn
      have c : i < (l.length : Int) := by omega
      have e2 : wrap64 (i + 1) = i + 1 := w64 (by omega) (by omega)
      by_cases hv : v = rd l i
      · refine ⟨i, ev_succ ?_, ?_⟩
        · simp only [slices_Index_int_int.l0, c, h0, if_true, if_pos hv]
          exact Ev.now _
        · simp only [h0, true_iff]
          have hm : rd l i ∈ l.drop i.toNat := by rw [drop_rd l i h0 c]; exact List.mem_cons_self
          rw [hv]
          exact List.mem_of_mem_drop hm
      · obtain ⟨r, hr, hrm⟩ := ih (i + 1) (by omega) (by omega) (by
          rw [take_snoc_rd l i h0 c]
          intro hm
          rcases List.mem_append.1 hm with hm | hm
          · exact hn hm
          · exact hv (by simpa using hm))
        refine ⟨r, ev_succ ?_, hrm⟩
        simp only [slices_Index_int_int.l0, c, h0, if_true, if_neg hv, e2]
        exact hr
  exact key l.length 0 (by omega) (by omega) (by simp)
theorem slices_Contains_ev (l : List Int) (v : Int) (hl : l.length ≤ 35184372088832) : Ev (fun k => slices_Contains_int_int.f k l v) (decide (v ∈ l)) := by
  simp only [slices_Contains_int_int.f]
  obtain ⟨r, hr, hm⟩ := slices_Index_ev l v hl
  refine Ev.bind hr ?_
  apply ev_some
  by_cases h : v ∈ l
  · simp [h, hm.2 h]
  · have : ¬ r ≥ 0 := fun h2 => h (hm.1 h2)
    simp [h, this]
theorem impl_Most_ev (conf list : List Int) (hc : conf.length ≤ 1048576) (hl : list.length ≤ 1048576) : Ev (fun k => impl_Most.f k conf list) (pMost conf list) := by
  simp only [impl_Most.f]
  have key := loop_up (fun k (x : Int) i => impl_Most.l0 k conf list x conf (conf.length : Int) i) (conf.length : Int) (pMost conf list) (fun x i => x = cntIn list (conf.take i.toNat))
    (fun x hx => by
      rw [List.take_of_length_le (by omega)] at hx
      subst hx
      have hle := cntIn_le list conf
      have c : ¬ (conf.length : Int) < (conf.length : Int) := by omega
      have e : wrap64 (2 * (cntIn list conf : Int)) = 2 * (cntIn list conf : Int) := w64 (by omega) (by omega)
      simp only [impl_Most.l0, c, if_false, e]
      refine Ev.bind (impl_ConfOk_ev _ (by omega)) ?_
      by_cases h : pConfOk conf = true
      · simp only [h, if_true]
        apply ev_some
        rw [pMost, h, Bool.true_and]
      · simp only [h, if_false]
        apply ev_some
        rw [Bool.not_eq_true] at h
        rw [pMost, h, Bool.false_and])
    (fun x i h0 h1 hx ih => by
      have hle := cntIn_le list (conf.take i.toNat)
      rw [List.length_take] at hle
      have e1 : wrap64 (x + 1) = x + 1 := w64 (by omega) (by omega)
      have e2 : wrap64 (i + 1) = i + 1 := w64 (by omega) (by omega)
      have hs := cntIn_snoc list conf i h0 h1
      simp only [impl_Most.l0, h1, h0, if_true, e1, e2]
      refine Ev.bind (slices_Contains_ev list _ (by omega)) ?_
      by_cases hm : rd conf i ∈ list
      · simp only [hm, decide_true, if_true]
        rw [if_pos hm] at hs
        exact ih _ (by rw [hs, hx]; simp)
      · simp only [hm, decide_false, Bool.false_eq_true, if_false]
        rw [if_neg hm] at hs
        exact ih _ (by rw [hs, hx]; simp))
  exact key conf.length 0 0 (by omega) (by omega) (by simp [cntIn])

theorem spec_l01In_ev (a b c : Int) : Ev (fun _ => spec_l01In.f a b c) (decide (b ≤ a ∧ a ≤ c)) := by
  apply ev_const
  unfold spec_l01In.f
  by_cases h : a ≥ b
  · rw [if_pos h]; simp [show b ≤ a from h]
  · rw [if_neg h]; simp [show ¬ b ≤ a from h]

theorem spec_l05Rise_l0 (l : List Int) (lo up : Int) (hl : l.length ≤ 35184372088832) : ∀ (d : Nat) (i : Int), 0 ≤ i → i + d = l.length →
    Ev (fun k => spec_l05Rise.l0 k l lo up i) (rise lo up (prev l i) (l.drop i.toNat)) := by
  intro d
  induction d with
  | zero =>
    intro i h0 h
    apply ev_succ
    have c : ¬ i < (l.length : Int) := by omega
    simp only [spec_l05Rise.l0, c, if_false]
    apply ev_some
    rw [List.drop_of_length_le (by omega)]; simp [rise]
  | succ d ih =>
    intro i h0 h
    apply ev_succ
    have c : i < (l.length : Int) := by omega
    have e5 : wrap64 (i + 1) = i + 1 := w64 (by omega) (by omega)
    have e6 : wrap64 (i - 1) = i - 1 := w64 (by omega) (by omega)
    simp only [spec_l05Rise.l0, c, h0, if_true, e5, e6]
    refine Ev.bind (spec_l01In_ev _ _ _) ?_
    have hh := ih (i + 1) (by omega) (by omega)
    have hp : prev l (i + 1) = some (rd l i) := by rw [prev, if_neg (by omega)]; congr 2; omega
    rw [hp] at hh
    rw [drop_rd l i h0 c]
    by_cases hb : lo ≤ rd l i ∧ rd l i ≤ up
    · simp only [hb, and_self, decide_true, if_true]
      by_cases hi : i > 0
      · have k1 : 0 ≤ i - 1 := by omega
        have k2 : i - 1 < (l.length : Int) := by omega
        simp only [hi, k1, k2, if_true]
        rw [prev, if_neg (by omega)]
        by_cases hq : rd l (i - 1) ≥ rd l i
        · simp only [hq, if_true]
          apply ev_some
          simp [rise, show ¬ rd l (i - 1) < rd l i by omega]
        · simp only [hq, if_false]
          simpa [rise, hb, show rd l (i - 1) < rd l i by omega] using hh
      · simp only [hi, if_false]
        rw [prev, if_pos (by omega)]
        simpa [rise, hb] using hh
    · simp only [hb, decide_false, Bool.false_eq_true, if_false]
      apply ev_some
      cases prev l i <;> simp [rise, hb]
theorem spec_l05Rise_ev (l : List Int) (lo up : Int) (hl : l.length ≤ 35184372088832) : Ev (fun k => spec_l05Rise.f k l lo up) (rise lo up none l) := by
  simp only [spec_l05Rise.f]
  have := spec_l05Rise_l0 l lo up hl l.length 0 (by omega) (by omega)
  simpa [prev] using this
theorem spec_ConfOk_ev (l : List Int) (hl : l.length ≤ 35184372088832) : Ev (fun k => spec_ConfOk.f k l) (pConfOk l) := by
  simp only [spec_ConfOk.f]
  refine Ev.bind (spec_l01In_ev _ _ _) ?_
  by_cases h : 1 ≤ (l.length : Int) ∧ (l.length : Int) ≤ 4
  · simp only [h, and_self, decide_true, if_true]
    rw [pConfOk, decide_eq_true (by omega), Bool.true_and]
    exact Ev.bind (spec_l05Rise_ev l 1 4 hl) (Ev.now _)
  · simp only [h, decide_false, Bool.false_eq_true, if_false]
    apply ev_some
    cases hc : pConfOk l with
    | false => rfl
    | true => have := confOk_len l hc; omega

theorem spec_l05In_ev (l : List Int) (v : Int) (hl : l.length ≤ 35184372088832) : Ev (fun k => spec_l05In.f k l v) (decide (v ∈ l)) := by
  simp only [spec_l05In.f]
  have key := loop_up (fun k (_ : Unit) i => spec_l05In.l0 k l v i) (l.length : Int) (decide (v ∈ l)) (fun _ i => v ∉ l.take i.toNat)
    (fun _ hn => by
      rw [List.take_of_length_le (by omega)] at hn
      have c : ¬ (l.length : Int) < (l.length : Int) := by omega
      simp only [spec_l05In.l0, c, if_false]
      apply ev_some
      simp [hn])
    (fun _ i h0 h1 hn ih => by
      have e2 : wrap64 (i + 1) = i + 1 := w64 (by omega) (by omega)
      by_cases hv : rd l i = v
      · simp only [spec_l05In.l0, h1, h0, if_true, if_pos hv]
        apply ev_some
        have hm : rd l i ∈ l.drop i.toNat := by rw [drop_rd l i h0 h1]; exact List.mem_cons_self
        rw [hv] at hm
        simp [List.mem_of_mem_drop hm]
      · simp only [spec_l05In.l0, h1, h0, if_true, if_neg hv, e2]
        refine ih () ?_
        rw [take_snoc_rd l i h0 h1]
        intro hm
        rcases List.mem_append.1 hm with hm | hm
        · exact hn hm
        · exact hv (List.mem_singleton.1 hm).symm)
  exact key l.length 0 () (by omega) (by omega) (by simp)
theorem spec_Most_ev (conf list : List Int) (hc : conf.length ≤ 1048576) (hl : list.length ≤ 1048576) : Ev (fun k => spec_Most.f k conf list) (pMost conf list) := by
  simp only [spec_Most.f]
  have key := loop_up (fun k (x : Int) i => spec_Most.l0 k conf list x i) (conf.length : Int) (pMost conf list) (fun x i => x = cntIn list (conf.take i.toNat))
    (fun x hx => by
      rw [List.take_of_length_le (by omega)] at hx
      subst hx
      have hle := cntIn_le list conf
      have c : ¬ (conf.length : Int) < (conf.length : Int) := by omega
      have e : wrap64 (2 * (cntIn list conf : Int)) = 2 * (cntIn list conf : Int) := w64 (by omega) (by omega)
      simp only [spec_Most.l0, c, if_false, e]
      refine Ev.bind (spec_ConfOk_ev _ (by omega)) ?_
      by_cases h : pConfOk conf = true
      · simp only [h, if_true]
        apply ev_some
        rw [pMost, h, Bool.true_and]
      · simp only [h, if_false]
        apply ev_some
        rw [Bool.not_eq_true] at h
        rw [pMost, h, Bool.false_and])
    (fun x i h0 h1 hx ih => by
      have hle := cntIn_le list (conf.take i.toNat)
      rw [List.length_take] at hle
      have e1 : wrap64 (x + 1) = x + 1 := w64 (by omega) (by omega)
      have e2 : wrap64 (i + 1) = i + 1 := w64 (by omega) (by omega)
      have hs := cntIn_snoc list conf i h0 h1
      simp only [spec_Most.l0, h1, h0, if_true, e1, e2]
      refine Ev.bind (spec_l05In_ev list _ (by omega)) ?_
      by_cases hm : rd conf i ∈ list
      · simp only [hm, decide_true, if_true]
        rw [if_pos hm] at hs
        exact ih _ (by rw [hs, hx]; simp)
      · simp only [hm, decide_false, Bool.false_eq_true, if_false]
        rw [if_neg hm] at hs
        exact ih _ (by rw [hs, hx]; simp))
  exact key conf.length 0 0 (by omega) (by omega) (by simp [cntIn])

theorem laws_toIntS_l0 (l : List Int) (hl : l.length ≤ 35184372088832) : ∀ (d : Nat) (i : Int) (b : List Int), 0 ≤ i → i + d = l.length → b.length = l.length → b.take i.toNat = l.take i.toNat →
    Ev (fun k => laws_toIntS.l0 k l b i) l := by
  intro d
  induction d with
  | zero =>
    intro i b h0 h hb ht
    apply ev_succ
    have c : ¬ i < (l.length : Int) := by omega
    simp only [laws_toIntS.l0, c, if_false]
    apply ev_some
    rw [List.take_of_length_le (by omega), List.take_of_length_le (by omega)] at ht
    exact ht
  | succ d ih =>
    intro i b h0 h hb ht
    apply ev_succ
    have c : i < (l.length : Int) := by omega
    have c2 : i < (b.length : Int) := by omega
    have e5 : wrap64 (i + 1) = i + 1 := w64 (by omega) (by omega)
    simp only [laws_toIntS.l0, c, c2, h0, if_true, e5]
    refine ih (i + 1) _ (by omega) (by omega) (by rw [List.length_set]; exact hb) ?_
    rw [show (i + 1).toNat = i.toNat + 1 by omega]
    refine take_set l b i.toNat _ hb (by omega) ht ?_
    rw [rd, List.getD_eq_getElem?_getD, List.getElem?_eq_getElem (show i.toNat < l.length by omega)]
    rfl
theorem laws_toIntS_ev (l : List Int) (hl : l.length ≤ 35184372088832) : Ev (fun k => laws_toIntS.f k l) l := by
  have c1 : 0 ≤ (l.length : Int) := by omega
  have c2 : ((l.length : Int)).toNat ≤ 35184372088832 := by omega
  simp only [laws_toIntS.f, c1, c2, if_true]
  exact laws_toIntS_l0 l hl l.length 0 _ (by omega) (by omega) (by simp) (by simp)

theorem laws_eqIntS_l0 (a b : List Int) (hl : a.length = b.length) (hb : a.length ≤ 35184372088832) : ∀ (d : Nat) (i : Int), 0 ≤ i → i + d = a.length →
    Ev (fun k => laws_eqIntS.l0 k a b i) (decide (a.drop i.toNat = b.drop i.toNat)) := by
  intro d
  induction d with
  | zero =>
    intro i h0 h
    apply ev_succ
    have c : ¬ i < (a.length : Int) := by omega
    simp only [laws_eqIntS.l0, c, if_false]
    apply ev_some
    rw [List.drop_of_length_le (by omega), List.drop_of_length_le (by omega)]
    simp
  | succ d ih =>
    intro i h0 h
    apply ev_succ
    have c : i < (a.length : Int) := by omega
    have c2 : i < (b.length : Int) := by omega
    have e5 : wrap64 (i + 1) = i + 1 := w64 (by omega) (by omega)
    have hh := ih (i + 1) (by omega) (by omega)
    simp only [laws_eqIntS.l0, c, c2, h0, if_true, e5]
    rw [drop_rd a i h0 c, drop_rd b i h0 c2]
    by_cases hq : rd a i = rd b i
    · simp only [hq, if_true, List.cons.injEq, true_and]
      exact hh
    · simp only [hq, if_false, List.cons.injEq, false_and, decide_false]
      exact Ev.now _
theorem laws_eqIntS_ev (a b : List Int) (hb : a.length ≤ 35184372088832) : Ev (fun k => laws_eqIntS.f k a b) (decide (a = b)) := by
  simp only [laws_eqIntS.f]
  by_cases hl : (a.length : Int) = (b.length : Int)
  · simp only [hl, if_true]
    simpa using laws_eqIntS_l0 a b (by omega) hb a.length 0 (by omega) (by omega)
  · simp only [hl, if_false]
    rw [decide_eq_false (by rintro rfl; exact hl rfl)]
    exact Ev.now _

theorem FnExactMost : laws_FnExactMost.Pure := by
  intro l m h0 h1 h2 h3 h4 h5
  apply ev_rounds
  simp only [laws_FnExactMost.f]
  by_cases c : (l.length : Int) > 1048576
  · simp only [c, if_true]; exact Ev.now _
  · by_cases d : (m.length : Int) > 1048576
    · simp only [c, d, if_true, if_false]; exact Ev.now _
    · simp only [c, d, if_false]
      have hl : l.length ≤ 35184372088832 := by omega
      have hm : m.length ≤ 35184372088832 := by omega
      have tl := laws_toIntS_ev l hl
      have tm := laws_toIntS_ev m hm
      refine Ev.bind tl ?_
      refine Ev.bind tm ?_
      refine Ev.bind (spec_Most_ev l m (by omega) (by omega)) ?_
      refine Ev.bind tl ?_
      refine Ev.bind tm ?_
      refine Ev.bind (impl_Most_ev l m (by omega) (by omega)) ?_
      simp only [bne_self_eq_false, Bool.false_eq_true, if_false]
      refine Ev.bind tl ?_
      refine Ev.bind (laws_eqIntS_ev l l hl) ?_
      simp only [decide_true, if_true]
      refine Ev.bind tm ?_
      refine Ev.bind (laws_eqIntS_ev m m hm) ?_
      simp

end Go.Proofs.Ytfccdecalkabhaa.Pure
