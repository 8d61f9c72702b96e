/- JournalText of the program and of the reference tell the same text and flag for every journal, which stays as it is. -/
import Derived.Test.YtaainenplcokaaaOpenFnExactJournalText
import Derived.Test.YtaainenplcokaaaBaseL
import Derived.Test.YtaainenplcokaaaBaseF
namespace Go.Proofs.Ytaainenplcokaaa.Pure
open Go.RowKit Go.Proofs.Ytaainenplcokaaa.QFnExactJournalText Go.Proofs.YtaainenplcokaaaW.PrintWords Go.Proofs.YtaainenplcokaaaW.PrintLast Go.Proofs.YtaainenplcokaaaW.PrintMore Go.Proofs.Ytaainenplcokaaa.Base
set_option linter.unusedVariables false
set_option linter.unusedSimpArgs false

theorem laws_szEntry_ev (a0 : Int) (a1 : Int) (a2 : ByteArray) (left : Int) (h0 : 0 ≤ left) (h1 : left ≤ 1048576) (g2 : a2.size ≤ 9223372036854775807) : ∃ r : Int, Ev (fun _ => laws_szEntry.f a0 a1 a2 left) r ∧ (r < 0 ∨ (0 ≤ r ∧ r = left - (a2.size : Int))) := by
  have e1 : wrap64 (left - (a2.size : Int)) = left - (a2.size : Int) := w64 (by omega) (by omega)
  by_cases c1 : left - (a2.size : Int) < 0
  · refine ⟨-1, ev_const ?_, Or.inl (by decide)⟩
    simp only [laws_szEntry.f, e1, c1, if_true]
  · refine ⟨left - (a2.size : Int), ev_const ?_, Or.inr ⟨by omega, rfl⟩⟩
    simp only [laws_szEntry.f, e1, c1, if_false]
theorem laws_szEntryS_l0 (l : List (S88)) (hl : l.length ≤ 1048576) (hg : ∀ x : S88, x ∈ l → x.f2.size ≤ 9223372036854775807) : ∀ (d : Nat) (i left : Int), 0 ≤ i → i + d = l.length → 0 ≤ left → left ≤ 1048576 →
    ∃ r : Int, Ev (fun k => laws_szEntryS.l0 k l left i) r ∧ (r < 0 ∨ (0 ≤ r ∧ r ≤ left ∧ ∀ x : S88, x ∈ l.drop i.toNat → (x.f2.size : Int) ≤ left)) := by
  intro d
  induction d with
  | zero =>
    intro i left h0 h hl0 hl1
    refine ⟨left, ev_succ ?_, Or.inr ⟨hl0, Int.le_refl _, fun x hx => ?_⟩⟩
    · have c : ¬ i < (l.length : Int) := by omega
      simp only [laws_szEntryS.l0, c, if_false]
      exact Ev.now _
    · rw [List.drop_of_length_le (by omega)] at hx
      simp at hx
  | succ d ih =>
    intro i left h0 h hl0 hl1
    have c : i < (l.length : Int) := by omega
    have hd : l.drop i.toNat = rd_T88 l i :: l.drop (i + 1).toNat := drop_get l i h0 c z88
    have hm : rd_T88 l i ∈ l := List.mem_of_mem_drop (i := i.toNat) (by rw [hd]; exact List.mem_cons_self)
    have hq := hg _ hm
    obtain ⟨r, hr, hrr⟩ := laws_szEntry_ev (rd_T88 l i).f0 (rd_T88 l i).f1 (rd_T88 l i).f2 left hl0 hl1 hq
    have e : wrap64 (i + 1) = i + 1 := w64 (by omega) (by omega)
    by_cases hn : r < 0
    · refine ⟨-1, ev_succ ?_, Or.inl (by decide)⟩
      simp only [laws_szEntryS.l0, c, h0, if_true]
      refine Ev.bind hr ?_
      simp only [hn, if_true]
      exact Ev.now _
    · have hrr' := hrr.resolve_left hn
      obtain ⟨q, hq1, hq2⟩ := ih (i + 1) r (by omega) (by omega) hrr'.1 (by omega)
      refine ⟨q, ev_succ ?_, ?_⟩
      · simp only [laws_szEntryS.l0, c, h0, if_true, e]
        refine Ev.bind hr ?_
        simp only [hn, if_false]
        exact hq1
      · rcases hq2 with hq2 | ⟨hq2, hq3, hq4⟩
        · exact Or.inl hq2
        · refine Or.inr ⟨hq2, by omega, fun x hx => ?_⟩
          rw [hd] at hx
          rcases List.mem_cons.1 hx with rfl | hx
          · omega
          · have := hq4 x hx
            omega
theorem laws_szEntryS_ev (l : List (S88)) (left : Int) (h0 : 0 ≤ left) (h1 : left ≤ 1048576) (hl : l.length ≤ 9223372036854775807) (hg : ∀ x : S88, x ∈ l → x.f2.size ≤ 9223372036854775807) :
    ∃ r : Int, Ev (fun k => laws_szEntryS.f k l left) r ∧ (r < 0 ∨ (0 ≤ r ∧ r ≤ left ∧ (l.length : Int) ≤ left ∧ ∀ x : S88, x ∈ l → (x.f2.size : Int) ≤ left)) := by
  have e : wrap64 (left - (l.length : Int)) = left - (l.length : Int) := w64 (by omega) (by omega)
  by_cases c : left - (l.length : Int) < 0
  · refine ⟨-1, ?_, Or.inl (by decide)⟩
    simp only [laws_szEntryS.f, e, c, if_true]
    exact Ev.now _
  · obtain ⟨r, hr, hrr⟩ := laws_szEntryS_l0 l (by omega) hg l.length 0 (left - l.length) (by omega) (by omega) (by omega) (by omega)
    refine ⟨r, ?_, ?_⟩
    · simp only [laws_szEntryS.f, e, c, if_false]
      exact hr
    · rcases hrr with hrr | ⟨h2, h3, h4⟩
      · exact Or.inl hrr
      · refine Or.inr ⟨h2, by omega, by omega, fun x hx => ?_⟩
        have := h4 x (by simpa using hx)
        omega

def cvEntry (x : S88) : S67 := ⟨x.f0, x.f1, x.f2⟩
theorem laws_toEntry_ev (a0 : Int) (a1 : Int) (a2 : ByteArray) : Ev (fun _ => laws_toEntry.f a0 a1 a2) (a0, a1, a2) := ev_const rfl
theorem laws_toEntryS_ev (l : List (S88)) (hl : l.length ≤ 1048576) : Ev (fun k => laws_toEntryS.f k l) (l.map cvEntry) := by
  have c1 : 0 ≤ (l.length : Int) := by omega
  have c2 : ∀ n : Nat, 1048576 ≤ n → ((l.length : Int)).toNat ≤ n := fun n h => by omega
  simp only [laws_toEntryS.f, c1, if_true]
  rw [ev_if (c2 _ (by decide))]
  have key := loop_up (fun k (b : List (S67)) i => laws_toEntryS.l0 k l b i) (l.length : Int) (l.map cvEntry) (fun b i => b.length = l.length ∧ b.take i.toNat = (l.map cvEntry).take i.toNat)
    (fun b hs => by
      obtain ⟨hb, ht⟩ := hs
      have c : ¬ (l.length : Int) < (l.length : Int) := by omega
      simp only [laws_toEntryS.l0, c, if_false]
      apply ev_some
      rw [List.take_of_length_le (by omega), List.take_of_length_le (by rw [List.length_map]; omega)] at ht
      exact ht)
    (fun b i h0 h1 hs ih => by
      obtain ⟨hb, ht⟩ := hs
      have c : i < (b.length : Int) := by omega
      have e2 : wrap64 (i + 1) = i + 1 := w64 (by omega) (by omega)
      simp only [laws_toEntryS.l0, h1, h0, if_true, e2]
      refine Ev.bind (laws_toEntry_ev _ _ _) ?_
      simp only [c, if_true]
      refine ih _ ⟨by rw [List.length_set]; exact hb, ?_⟩
      rw [show (i + 1).toNat = i.toNat + 1 by omega]
      refine take_set (l.map cvEntry) b i.toNat _ (by rw [List.length_map]; exact hb) (by rw [List.length_map]; omega) ht ?_
      rw [List.getElem?_map, getElem_rd l i h0 h1 z88]
      rfl)
  exact key l.length 0 _ (by omega) (by omega) ⟨by simp, by simp⟩

theorem laws_eqEntry_ev (a0 : Int) (a1 : Int) (a2 : ByteArray) : Ev (fun _ => laws_eqEntry.f a0 a1 a2 a0 a1 a2) true := by
  apply ev_const
  simp [laws_eqEntry.f]

theorem laws_eqEntryS_ev (l : List (S67)) (hl : l.length ≤ 140737488355328) : Ev (fun k => laws_eqEntryS.f k l l) true := by
  simp only [laws_eqEntryS.f, if_true]
  have key := loop_up (fun k (_ : Unit) i => laws_eqEntryS.l0 k l l i) (l.length : Int) true (fun _ _ => True)
    (fun _ _ => by
      have c : ¬ (l.length : Int) < (l.length : Int) := by omega
      simp only [laws_eqEntryS.l0, c, if_false]
      exact Ev.now _)
    (fun _ i h0 h1 _ ih => by
      have e2 : wrap64 (i + 1) = i + 1 := w64 (by omega) (by omega)
      simp only [laws_eqEntryS.l0, h1, h0, if_true, e2]
      refine Ev.bind (laws_eqEntry_ev _ _ _) ?_
      simp only [if_true]
      exact ih () trivial)
  exact key l.length 0 () (by omega) (by omega) trivial

theorem laws_szLog_ev (a b : Int) (l : List (S88)) (left : Int) (h0 : 0 ≤ left) (h1 : left ≤ 1048576) (hl : l.length ≤ 9223372036854775807) (hg : ∀ x : S88, x ∈ l → x.f2.size ≤ 9223372036854775807) :
    ∃ r : Int, Ev (fun k => laws_szLog.f k a b l left) r ∧ (r < 0 ∨ (0 ≤ r ∧ r ≤ left ∧ (l.length : Int) ≤ left ∧ ∀ x : S88, x ∈ l → (x.f2.size : Int) ≤ left)) := by
  obtain ⟨r, hr, hrr⟩ := laws_szEntryS_ev l left h0 h1 hl hg
  refine ⟨if r < 0 then -1 else r, ?_, ?_⟩
  · simp only [laws_szLog.f]
    refine Ev.bind hr ?_
    by_cases c : r < 0 <;> simp [c]
  · rcases hrr with h | h
    · rw [if_pos h]; exact Or.inl (by decide)
    · rw [if_neg (by omega)]; exact Or.inr h
theorem laws_toLog_ev (a b : Int) (l : List (S88)) (hl : l.length ≤ 1048576) : Ev (fun k => laws_toLog.f k a b l) (a, b, l.map cvEntry) := by
  simp only [laws_toLog.f]
  exact Ev.bind (laws_toEntryS_ev l hl) (Ev.now _)
theorem laws_eqLog_ev (a b : Int) (l : List (S67)) (hl : l.length ≤ 140737488355328) : Ev (fun k => laws_eqLog.f k a b l a b l) true := by
  simp only [laws_eqLog.f, if_true]
  refine Ev.bind (laws_eqEntryS_ev l hl) ?_
  simp

theorem laws_szJournal_ev (n t v a b : Int) (l : List (S88)) (left : Int) (h0 : 0 ≤ left) (h1 : left ≤ 1048576) (hl : l.length ≤ 9223372036854775807) (hg : ∀ x : S88, x ∈ l → x.f2.size ≤ 9223372036854775807) :
    ∃ r : Int, Ev (fun k => laws_szJournal.f k n t v a b l left) r ∧ (r < 0 ∨ (0 ≤ r ∧ r ≤ left ∧ (l.length : Int) ≤ left ∧ ∀ x : S88, x ∈ l → (x.f2.size : Int) ≤ left)) := by
  obtain ⟨r, hr, hrr⟩ := laws_szLog_ev a b l left h0 h1 hl hg
  refine ⟨if r < 0 then -1 else r, ?_, ?_⟩
  · simp only [laws_szJournal.f]
    refine Ev.bind hr ?_
    by_cases c : r < 0 <;> simp [c]
  · rcases hrr with h | h
    · rw [if_pos h]; exact Or.inl (by decide)
    · rw [if_neg (by omega)]; exact Or.inr h
theorem laws_toJournal_ev (n t v a b : Int) (l : List (S88)) (hl : l.length ≤ 1048576) : Ev (fun k => laws_toJournal.f k n t v a b l) (n, t, v, a, b, l.map cvEntry) := by
  simp only [laws_toJournal.f]
  exact Ev.bind (laws_toLog_ev a b l hl) (Ev.now _)
theorem laws_eqJournal_ev (n t v a b : Int) (l : List (S67)) (hl : l.length ≤ 140737488355328) : Ev (fun k => laws_eqJournal.f k n t v a b l n t v a b l) true := by
  simp only [laws_eqJournal.f, if_true]
  refine Ev.bind (laws_eqLog_ev a b l hl) ?_
  simp

theorem impl_within_ev (a b c : Int) : Ev (fun _ => impl_within.f a b c) (decide (b ≤ a ∧ a ≤ c)) := by
  apply ev_const
  unfold impl_within.f
  by_cases h : a ≥ b
  · rw [if_pos h]; simp [show b ≤ a from h]
  · rw [if_neg h]; simp [show ¬ b ≤ a from h]

theorem impl_isNode_ev (x : Int) : Ev (fun _ => impl_isNode.f x) (decide (1 ≤ x ∧ x ≤ 4)) := by
  simp only [impl_isNode.f]
  exact Ev.bind (impl_within_ev _ _ _) (Ev.now _)
theorem impl_nodesOk_l0 (l : List Int) (hl : l.length ≤ 35184372088832) : ∀ (d : Nat) (i : Int), 0 ≤ i → i + d = l.length →
    Ev (fun k => impl_nodesOk.l0 k l l (l.length : Int) i) (rise 1 4 (prev l i) (l.drop i.toNat)) := by
  intro d
  induction d with
  | zero =>
    intro i h0 h
    apply ev_succ
    have c : ¬ i < (l.length : Int) := by omega
    simp only [impl_nodesOk.l0, c, if_false]
    apply ev_some
    rw [List.drop_of_length_le (by omega)]; simp [rise]
  | succ d ih =>
    intro i h0 h
    apply ev_succ
    have c : i < (l.length : Int) := by omega
    have e5 : wrap64 (i + 1) = i + 1 := w64 (by omega) (by omega)
    have e6 : wrap64 (i - 1) = i - 1 := w64 (by omega) (by omega)
    simp only [impl_nodesOk.l0, c, h0, if_true, e5, e6]
    refine Ev.bind (impl_isNode_ev _) ?_
    have hh := ih (i + 1) (by omega) (by omega)
    have hp : prev l (i + 1) = some (rd l i) := by rw [prev, if_neg (by omega)]; congr 2; omega
    rw [hp] at hh
    rw [drop_rd l i h0 c]
    by_cases hb : 1 ≤ rd l i ∧ rd l i ≤ 4
    · simp only [hb, and_self, decide_true, if_true]
      by_cases hi : i > 0
      · have k1 : 0 ≤ i - 1 := by omega
        have k2 : i - 1 < (l.length : Int) := by omega
        simp only [hi, k1, k2, if_true]
        rw [prev, if_neg (by omega)]
        by_cases hq : rd l (i - 1) ≥ rd l i
        · simp only [hq, if_true]
          apply ev_some
          simp [rise, show ¬ rd l (i - 1) < rd l i by omega]
        · simp only [hq, if_false]
          simpa [rise, hb, show rd l (i - 1) < rd l i by omega] using hh
      · simp only [hi, if_false]
        rw [prev, if_pos (by omega)]
        simpa [rise, hb] using hh
    · simp only [hb, decide_false, Bool.false_eq_true, if_false]
      apply ev_some
      cases prev l i <;> simp [rise, hb]
theorem impl_nodesOk_ev (l : List Int) (hl : l.length ≤ 35184372088832) : Ev (fun k => impl_nodesOk.f k l) (rise 1 4 none l) := by
  simp only [impl_nodesOk.f]
  have := impl_nodesOk_l0 l hl l.length 0 (by omega) (by omega)
  simpa [prev] using this
theorem impl_ConfOk_ev (l : List Int) (hl : l.length ≤ 35184372088832) : Ev (fun k => impl_ConfOk.f k l) (pConfOk l) := by
  simp only [impl_ConfOk.f]
  by_cases h : (l.length : Int) > 0
  · simp only [h, if_true]
    rw [pConfOk, decide_eq_true (by omega), Bool.true_and]
    exact Ev.bind (impl_nodesOk_ev l hl) (Ev.now _)
  · simp only [h, if_false]
    rw [pConfOk, decide_eq_false (by omega), Bool.false_and]
    exact Ev.now _

theorem impl_ReadConf_ev (s : ByteArray) (hs : s.size ≤ 1048576) : Ev (fun k => impl_ReadConf.f k s) (pReadConf s) := by
  simp only [impl_ReadConf.f]
  have key := loop_up (fun k (x : List Int) i => impl_ReadConf.l0 k s x i) (s.size : Int) (pReadConf s) (fun x i => x = (bytesOf s).take i.toNat)
    (fun x hx => by
      rw [List.take_of_length_le (by rw [bytes_len]; omega)] at hx
      subst hx
      have c : ¬ (s.size : Int) < (s.size : Int) := by omega
      simp only [impl_ReadConf.l0, c, if_false]
      refine Ev.bind (impl_ConfOk_ev _ (by rw [bytes_len]; omega)) ?_
      by_cases h : pConfOk (bytesOf s) = true
      · simp only [h, if_true]
        rw [pReadConf_yes h]
        exact Ev.now _
      · simp only [h, if_false]
        rw [pReadConf_no h]
        exact Ev.now _)
    (fun x i h0 h1 hx ih => by
      have hxl : x.length ≤ s.size := by rw [hx, List.length_take, bytes_len]; omega
      have c3 : x.length < 17592186044416 := by omega
      have br := bt_range s i
      have e1 : wrap64 (bt s i) = bt s i := w64 (by omega) (by omega)
      have e2 : wrap64 (i + 1) = i + 1 := w64 (by omega) (by omega)
      simp only [impl_ReadConf.l0, h1, h0, c3, if_true, e1, e2]
      refine ih _ ?_
      rw [take_snoc_rd _ i h0 (by rw [bytes_len]; exact h1), hx, bt_rd]
      rfl)
  exact key s.size 0 [] (by omega) (by omega) (by simp)

theorem impl_isTerm_ev (x : Int) : Ev (fun _ => impl_isTerm.f x) (decide (0 ≤ x ∧ x ≤ 100000)) := by
  simp only [impl_isTerm.f]
  exact Ev.bind (impl_within_ev _ _ _) (Ev.now _)

theorem impl_EntryOk_ev (t kd : Int) (s : ByteArray) (hs : s.size ≤ 1048576) : Ev (fun k => impl_EntryOk.f k t kd s) (pEntryOk t kd s) := by
  simp only [impl_EntryOk.f]
  by_cases ht : 0 ≤ t ∧ t ≤ 100000
  · have hd : decide (0 ≤ t ∧ t ≤ 100000) = true := decide_eq_true ht
    by_cases c1 : kd = 1
    · simp only [c1, if_true]
      refine Ev.bind (impl_isTerm_ev t) ?_
      simp [pEntryOk, hd]
    · by_cases c2 : kd = 2
      · simp only [c2, if_true, show ¬ (2 : Int) = 1 by decide, if_false]
        refine Ev.bind (impl_ReadConf_ev s hs) ?_
        refine Ev.bind (impl_isTerm_ev t) ?_
        by_cases h : pConfOk (bytesOf s) = true
        · simp [pEntryOk, hd, pReadConf_yes h, h]
        · simp [pEntryOk, hd, pReadConf_no h, h]
      · by_cases c3 : kd = 3
        · simp only [c3, if_true, show ¬ (3 : Int) = 1 by decide, show ¬ (3 : Int) = 2 by decide, if_false]
          refine Ev.bind (impl_isTerm_ev t) ?_
          simp [pEntryOk, hd]
        · simp [pEntryOk, c1, c2, c3]
  · have hd : decide (0 ≤ t ∧ t ≤ 100000) = false := decide_eq_false ht
    have hp : pEntryOk t kd s = false := by rw [pEntryOk, hd, Bool.false_and]
    rw [hp]
    by_cases c1 : kd = 1
    · simp only [c1, if_true]
      refine Ev.bind (impl_isTerm_ev t) ?_
      simp [hd]
    · by_cases c2 : kd = 2
      · simp only [c2, if_true, show ¬ (2 : Int) = 1 by decide, if_false]
        refine Ev.bind (impl_ReadConf_ev s hs) ?_
        refine Ev.bind (impl_isTerm_ev t) ?_
        simp [hd]
      · by_cases c3 : kd = 3
        · simp only [c3, if_true, show ¬ (3 : Int) = 1 by decide, show ¬ (3 : Int) = 2 by decide, if_false]
          refine Ev.bind (impl_isTerm_ev t) ?_
          simp [hd]
        · simp [c1, c2, c3]

def pEnts : Int → List (S67) → Bool
  | _, [] => true
  | t, e :: l => pEntryOk e.f0 e.f1 e.f2 && decide (t ≤ e.f0) && pEnts e.f0 l
def pLogOk (start term : Int) (l : List (S67)) : Bool :=
  decide ((0 ≤ start ∧ start ≤ 1000000) ∧ (0 ≤ term ∧ term ≤ 100000) ∧ l.length ≤ 60 ∧ start + l.length ≤ 1000000) && pEnts term l
theorem drop_ent (l : List (S67)) (i : Int) (h0 : 0 ≤ i) (h1 : i < l.length) : l.drop i.toNat = rd_T67 l i :: l.drop (i + 1).toNat := drop_get l i h0 h1 z67

theorem impl_isIndex_ev (x : Int) : Ev (fun _ => impl_isIndex.f x) (decide (0 ≤ x ∧ x ≤ 1000000)) := by
  simp only [impl_isIndex.f]
  exact Ev.bind (impl_within_ev _ _ _) (Ev.now _)

theorem impl_LogOk_l0 (a b : Int) (l : List (S67)) (hl : l.length ≤ 1048576) (hd : ∀ x ∈ l, x.f2.size ≤ 1048576) : ∀ (d : Nat) (i t : Int), 0 ≤ i → i + d = l.length →
    Ev (fun k => impl_LogOk.l0 k t l (l.length : Int) i a b l) (pEnts t (l.drop i.toNat) && decide ((0 ≤ a ∧ a ≤ 1000000) ∧ (0 ≤ b ∧ b ≤ 100000) ∧ l.length ≤ 60 ∧ a + l.length ≤ 1000000)) := by
  intro d
  induction d with
  | zero =>
    intro i t h0 h
    apply ev_succ
    have c : ¬ i < (l.length : Int) := by omega
    simp only [impl_LogOk.l0, c, if_false]
    rw [List.drop_of_length_le (by omega)]
    simp only [pEnts, Bool.true_and]
    refine Ev.bind (impl_isIndex_ev a) ?_
    by_cases ha : 0 ≤ a ∧ a ≤ 1000000
    · simp only [ha, and_self, decide_true, if_true, true_and]
      refine Ev.bind (impl_isTerm_ev b) ?_
      by_cases hb : 0 ≤ b ∧ b ≤ 100000
      · simp only [hb, and_self, decide_true, if_true, true_and]
        have e : wrap64 (a + l.length) = a + l.length := w64 (by omega) (by omega)
        by_cases hc : (l.length : Int) ≤ 60
        · simp only [hc, if_true, e]
          apply ev_some
          rw [decide_eq_decide]
          omega
        · simp only [hc, if_false]
          apply ev_some
          rw [decide_eq_false (by omega)]
      · simp only [hb, decide_false, Bool.false_eq_true, if_false, false_and]
        exact Ev.now _
    · simp only [ha, decide_false, Bool.false_eq_true, if_false, false_and]
      exact Ev.now _
  | succ d ih =>
    intro i t h0 h
    apply ev_succ
    have c : i < (l.length : Int) := by omega
    have e1 : wrap64 (i + 1) = i + 1 := w64 (by omega) (by omega)
    have hdr := drop_ent l i h0 c
    have hm : rd_T67 l i ∈ l := List.mem_of_mem_drop (i := i.toNat) (by rw [hdr]; exact List.mem_cons_self)
    have hh := ih (i + 1) (rd_T67 l i).f0 (by omega) (by omega)
    simp only [impl_LogOk.l0, c, h0, if_true, e1]
    rw [hdr]
    refine Ev.bind (impl_EntryOk_ev _ _ _ (hd _ hm)) ?_
    by_cases ho : pEntryOk (rd_T67 l i).f0 (rd_T67 l i).f1 (rd_T67 l i).f2 = true
    · by_cases hq : (rd_T67 l i).f0 < t
      · simp only [ho, hq, if_true]
        apply ev_some
        rw [pEnts, decide_eq_false (show ¬ t ≤ (rd_T67 l i).f0 by omega)]
        simp
      · simp only [ho, hq, if_true, if_false]
        rw [pEnts, ho, decide_eq_true (show t ≤ (rd_T67 l i).f0 by omega)]
        simpa using hh
    · simp only [ho, if_false]
      rw [Bool.not_eq_true] at ho
      apply ev_some
      rw [pEnts, ho]
      simp
theorem impl_LogOk_ev (a b : Int) (l : List (S67)) (hl : l.length ≤ 1048576) (hd : ∀ x ∈ l, x.f2.size ≤ 1048576) : Ev (fun k => impl_LogOk.f k a b l) (pLogOk a b l) := by
  simp only [impl_LogOk.f]
  rw [pLogOk, Bool.and_comm]
  simpa using impl_LogOk_l0 a b l hl hd l.length 0 b (by omega) (by omega)

def pJournalOk (n t v a b : Int) (l : List (S67)) : Bool := decide ((0 ≤ n ∧ n ≤ 999) ∧ (0 ≤ t ∧ t ≤ 100000) ∧ (0 ≤ v ∧ v ≤ 4)) && pLogOk a b l
theorem impl_votesOk_ev (t v : Int) : Ev (fun _ => impl_votesOk.f t v) (decide ((0 ≤ t ∧ t ≤ 100000) ∧ (0 ≤ v ∧ v ≤ 4))) := by
  simp only [impl_votesOk.f]
  refine Ev.bind (impl_isTerm_ev t) ?_
  by_cases h : 0 ≤ t ∧ t ≤ 100000
  · simp only [h, and_self, decide_true, if_true, true_and]
    exact Ev.bind (impl_within_ev _ _ _) (Ev.now _)
  · simp only [h, decide_false, Bool.false_eq_true, if_false, false_and]
    exact Ev.now _
theorem impl_JournalOk_ev (n t v a b : Int) (l : List (S67)) (hl : l.length ≤ 1048576) (hd : ∀ x ∈ l, x.f2.size ≤ 1048576) : Ev (fun k => impl_JournalOk.f k n t v a b l) (pJournalOk n t v a b l) := by
  simp only [impl_JournalOk.f]
  refine Ev.bind (impl_within_ev _ _ _) ?_
  by_cases h : 0 ≤ n ∧ n ≤ 999
  · simp only [h, and_self, decide_true, if_true]
    refine Ev.bind (impl_votesOk_ev t v) ?_
    by_cases h2 : (0 ≤ t ∧ t ≤ 100000) ∧ (0 ≤ v ∧ v ≤ 4)
    · simp only [h2, and_self, decide_true, if_true]
      rw [pJournalOk, decide_eq_true ⟨h, h2⟩, Bool.true_and]
      exact Ev.bind (impl_LogOk_ev a b l hl hd) (Ev.now _)
    · simp only [h2, decide_false, Bool.false_eq_true, if_false]
      apply ev_some
      rw [pJournalOk, decide_eq_false (fun h => h2 h.2), Bool.false_and]
  · simp only [h, decide_false, Bool.false_eq_true, if_false]
    apply ev_some
    rw [pJournalOk, decide_eq_false (fun q => h q.1), Bool.false_and]

theorem spec_l01In_ev (a b c : Int) : Ev (fun _ => spec_l01In.f a b c) (decide (b ≤ a ∧ a ≤ c)) := by
  apply ev_const
  unfold spec_l01In.f
  by_cases h : a ≥ b
  · rw [if_pos h]; simp [show b ≤ a from h]
  · rw [if_neg h]; simp [show ¬ b ≤ a from h]

theorem spec_l05Rise_l0 (l : List Int) (lo up : Int) (hl : l.length ≤ 35184372088832) : ∀ (d : Nat) (i : Int), 0 ≤ i → i + d = l.length →
    Ev (fun k => spec_l05Rise.l0 k l lo up i) (rise lo up (prev l i) (l.drop i.toNat)) := by
  intro d
  induction d with
  | zero =>
    intro i h0 h
    apply ev_succ
    have c : ¬ i < (l.length : Int) := by omega
    simp only [spec_l05Rise.l0, c, if_false]
    apply ev_some
    rw [List.drop_of_length_le (by omega)]; simp [rise]
  | succ d ih =>
    intro i h0 h
    apply ev_succ
    have c : i < (l.length : Int) := by omega
    have e5 : wrap64 (i + 1) = i + 1 := w64 (by omega) (by omega)
    have e6 : wrap64 (i - 1) = i - 1 := w64 (by omega) (by omega)
    simp only [spec_l05Rise.l0, c, h0, if_true, e5, e6]
    refine Ev.bind (spec_l01In_ev _ _ _) ?_
    have hh := ih (i + 1) (by omega) (by omega)
    have hp : prev l (i + 1) = some (rd l i) := by rw [prev, if_neg (by omega)]; congr 2; omega
    rw [hp] at hh
    rw [drop_rd l i h0 c]
    by_cases hb : lo ≤ rd l i ∧ rd l i ≤ up
    · simp only [hb, and_self, decide_true, if_true]
      by_cases hi : i > 0
      · have k1 : 0 ≤ i - 1 := by omega
        have k2 : i - 1 < (l.length : Int) := by omega
        simp only [hi, k1, k2, if_true]
        rw [prev, if_neg (by omega)]
        by_cases hq : rd l (i - 1) ≥ rd l i
        · simp only [hq, if_true]
          apply ev_some
          simp [rise, show ¬ rd l (i - 1) < rd l i by omega]
        · simp only [hq, if_false]
          simpa [rise, hb, show rd l (i - 1) < rd l i by omega] using hh
      · simp only [hi, if_false]
        rw [prev, if_pos (by omega)]
        simpa [rise, hb] using hh
    · simp only [hb, decide_false, Bool.false_eq_true, if_false]
      apply ev_some
      cases prev l i <;> simp [rise, hb]
theorem spec_l05Rise_ev (l : List Int) (lo up : Int) (hl : l.length ≤ 35184372088832) : Ev (fun k => spec_l05Rise.f k l lo up) (rise lo up none l) := by
  simp only [spec_l05Rise.f]
  have := spec_l05Rise_l0 l lo up hl l.length 0 (by omega) (by omega)
  simpa [prev] using this
theorem spec_ConfOk_ev (l : List Int) (hl : l.length ≤ 35184372088832) : Ev (fun k => spec_ConfOk.f k l) (pConfOk l) := by
  simp only [spec_ConfOk.f]
  refine Ev.bind (spec_l01In_ev _ _ _) ?_
  by_cases h : 1 ≤ (l.length : Int) ∧ (l.length : Int) ≤ 4
  · simp only [h, and_self, decide_true, if_true]
    rw [pConfOk, decide_eq_true (by omega), Bool.true_and]
    exact Ev.bind (spec_l05Rise_ev l 1 4 hl) (Ev.now _)
  · simp only [h, decide_false, Bool.false_eq_true, if_false]
    apply ev_some
    cases hc : pConfOk l with
    | false => rfl
    | true => have := confOk_len l hc; omega

theorem spec_ReadConf_end (s : ByteArray) (hs : s.size ≤ 1048576) (x : List Int) (hx : x = (bytesOf s).take 5) :
    Ev (fun k => if (x.length : Int) = (s.size : Int) then ((spec_ConfOk.f k x).bind fun t => (if t = true then (some (x, true)) else (some ((([] : List Int)), false)))) else (some ((([] : List Int)), false))) (pReadConf s) := by
  have hxl : x.length = min 5 s.size := by rw [hx, List.length_take, bytes_len]
  by_cases h5 : s.size ≤ 5
  · rw [List.take_of_length_le (by rw [bytes_len]; omega)] at hx
    have c : (x.length : Int) = (s.size : Int) := by omega
    simp only [c, if_true]
    subst hx
    refine Ev.bind (spec_ConfOk_ev _ (by rw [bytes_len]; omega)) ?_
    by_cases h : pConfOk (bytesOf s) = true
    · simp only [h, if_true]
      rw [pReadConf_yes h]
      exact Ev.now _
    · simp only [h, if_false]
      rw [pReadConf_no h]
      exact Ev.now _
  · have c : ¬ (x.length : Int) = (s.size : Int) := by omega
    simp only [c, if_false]
    have hn : ¬ pConfOk (bytesOf s) = true := by
      intro h
      have := confOk_len _ h
      rw [bytes_len] at this
      omega
    rw [pReadConf_no hn]
    exact Ev.now _
theorem spec_ReadConf_ev (s : ByteArray) (hs : s.size ≤ 1048576) : Ev (fun k => spec_ReadConf.f k s) (pReadConf s) := by
  simp only [spec_ReadConf.f]
  have key := loop_up (fun k (x : List Int) i => spec_ReadConf.l0 k s x i) ((min 5 s.size : Nat) : Int) (pReadConf s) (fun x i => x = (bytesOf s).take i.toNat)
    (fun x hx => by
      have hx' : x = (bytesOf s).take 5 := by
        rw [hx, Int.toNat_natCast]
        by_cases h5 : s.size ≤ 5
        · rw [List.take_of_length_le (by rw [bytes_len]; omega), List.take_of_length_le (by rw [bytes_len]; omega)]
        · rw [show min 5 s.size = 5 by omega]
      have he := spec_ReadConf_end s hs x hx'
      by_cases c : ((min 5 s.size : Nat) : Int) < (s.size : Int)
      · have c2 : ¬ ((min 5 s.size : Nat) : Int) ≤ 4 := by omega
        simp only [spec_ReadConf.l0, c, c2, if_true, if_false]
        exact he
      · simp only [spec_ReadConf.l0, c, if_false]
        exact he)
    (fun x i h0 h1 hx ih => by
      have hxl : x.length ≤ s.size := by rw [hx, List.length_take, bytes_len]; omega
      have c1 : i < (s.size : Int) := by omega
      have c2 : i ≤ 4 := by omega
      have c3 : x.length < 17592186044416 := by omega
      have br := bt_range s i
      have e1 : wrap64 (bt s i) = bt s i := w64 (by omega) (by omega)
      have e2 : wrap64 (i + 1) = i + 1 := w64 (by omega) (by omega)
      simp only [spec_ReadConf.l0, c1, c2, h0, c3, if_true, e1, e2]
      refine ih _ ?_
      rw [take_snoc_rd _ i h0 (by rw [bytes_len]; exact c1), hx, bt_rd]
      rfl)
  exact key (min 5 s.size) 0 [] (by omega) (by omega) (by simp)

theorem spec_EntryOk_ev (t kd : Int) (s : ByteArray) (hs : s.size ≤ 1048576) : Ev (fun k => spec_EntryOk.f k t kd s) (pEntryOk t kd s) := by
  simp only [spec_EntryOk.f]
  refine Ev.bind (spec_l01In_ev _ _ _) ?_
  by_cases ht : 0 ≤ t ∧ t ≤ 100000
  · have hd : decide (0 ≤ t ∧ t ≤ 100000) = true := decide_eq_true ht
    simp only [hd, if_true]
    by_cases c1 : kd = 1
    · simp [pEntryOk, hd, c1]
    · by_cases c2 : kd = 2
      · simp only [c2, if_true, show ¬ (2 : Int) = 1 by decide, if_false]
        refine Ev.bind (spec_ReadConf_ev s hs) ?_
        by_cases h : pConfOk (bytesOf s) = true
        · simp [pEntryOk, hd, pReadConf_yes h, h]
        · simp [pEntryOk, hd, pReadConf_no h, h]
      · by_cases c3 : kd = 3
        · simp [pEntryOk, hd, c3]
        · simp [pEntryOk, c1, c2, c3]
  · have hd : decide (0 ≤ t ∧ t ≤ 100000) = false := decide_eq_false ht
    simp [pEntryOk, hd]

theorem spec_LogOk_l0 (a b : Int) (l : List (S67)) (hl : l.length ≤ 1048576) (hd : ∀ x ∈ l, x.f2.size ≤ 1048576) : ∀ (d : Nat) (i t : Int), 0 ≤ i → i + d = l.length →
    Ev (fun k => spec_LogOk.l0 k t i a b l) (pEnts t (l.drop i.toNat)) := by
  intro d
  induction d with
  | zero =>
    intro i t h0 h
    apply ev_succ
    have c : ¬ i < (l.length : Int) := by omega
    simp only [spec_LogOk.l0, c, if_false]
    rw [List.drop_of_length_le (by omega)]
    exact Ev.now _
  | succ d ih =>
    intro i t h0 h
    apply ev_succ
    have c : i < (l.length : Int) := by omega
    have e1 : wrap64 (i + 1) = i + 1 := w64 (by omega) (by omega)
    have hdr := drop_ent l i h0 c
    have hm : rd_T67 l i ∈ l := List.mem_of_mem_drop (i := i.toNat) (by rw [hdr]; exact List.mem_cons_self)
    have hh := ih (i + 1) (rd_T67 l i).f0 (by omega) (by omega)
    simp only [spec_LogOk.l0, c, h0, if_true, e1]
    rw [hdr]
    refine Ev.bind (spec_EntryOk_ev _ _ _ (hd _ hm)) ?_
    by_cases ho : pEntryOk (rd_T67 l i).f0 (rd_T67 l i).f1 (rd_T67 l i).f2 = true
    · by_cases hq : (rd_T67 l i).f0 < t
      · simp only [ho, hq, if_true]
        apply ev_some
        rw [pEnts, decide_eq_false (show ¬ t ≤ (rd_T67 l i).f0 by omega)]
        simp
      · simp only [ho, hq, if_true, if_false]
        rw [pEnts, ho, decide_eq_true (show t ≤ (rd_T67 l i).f0 by omega)]
        simpa using hh
    · simp only [ho, if_false]
      rw [Bool.not_eq_true] at ho
      apply ev_some
      rw [pEnts, ho]
      simp
theorem spec_LogOk_ev (a b : Int) (l : List (S67)) (hl : l.length ≤ 1048576) (hd : ∀ x ∈ l, x.f2.size ≤ 1048576) : Ev (fun k => spec_LogOk.f k a b l) (pLogOk a b l) := by
  simp only [spec_LogOk.f]
  have hno : ¬ ((0 ≤ a ∧ a ≤ 1000000) ∧ (0 ≤ b ∧ b ≤ 100000) ∧ l.length ≤ 60 ∧ a + l.length ≤ 1000000) → Ev (fun k => spec_LogOk.j0 k true a b l) (pLogOk a b l) := by
    intro hn
    apply ev_succ
    simp only [spec_LogOk.j0, if_true]
    apply ev_some
    rw [pLogOk, decide_eq_false hn, Bool.false_and]
  refine Ev.bind (spec_l01In_ev _ _ _) ?_
  by_cases ha : 0 ≤ a ∧ a ≤ 1000000
  · simp only [ha, and_self, decide_true, if_true]
    refine Ev.bind (spec_l01In_ev _ _ _) ?_
    by_cases hb : 0 ≤ b ∧ b ≤ 100000
    · simp only [hb, and_self, decide_true, if_true]
      have e : wrap64 (a + l.length) = a + l.length := w64 (by omega) (by omega)
      by_cases hc : (l.length : Int) > 60
      · simp only [hc, if_true]
        exact hno (fun h => by have := h.2.2.1; omega)
      · simp only [hc, if_false, e]
        by_cases hs : a + (l.length : Int) > 1000000
        · simp only [hs, decide_true]
          exact hno (fun h => by have := h.2.2.2; omega)
        · simp only [hs, decide_false]
          apply ev_succ
          simp only [spec_LogOk.j0, Bool.false_eq_true, if_false]
          rw [pLogOk, decide_eq_true ⟨ha, hb, by omega, by omega⟩, Bool.true_and]
          simpa using spec_LogOk_l0 a b l hl hd l.length 0 b (by omega) (by omega)
    · simp only [hb, decide_false, Bool.false_eq_true, if_false]
      exact hno (fun h => hb h.2.1)
  · simp only [ha, decide_false, Bool.false_eq_true, if_false]
    exact hno (fun h => ha h.1)

theorem spec_JournalOk_ev (n t v a b : Int) (l : List (S67)) (hl : l.length ≤ 1048576) (hd : ∀ x ∈ l, x.f2.size ≤ 1048576) : Ev (fun k => spec_JournalOk.f k n t v a b l) (pJournalOk n t v a b l) := by
  simp only [spec_JournalOk.f]
  refine Ev.bind (spec_l01In_ev _ _ _) ?_
  by_cases h : 0 ≤ n ∧ n ≤ 999
  · simp only [h, and_self, decide_true, if_true]
    refine Ev.bind (spec_l01In_ev _ _ _) ?_
    by_cases h2 : 0 ≤ t ∧ t ≤ 100000
    · simp only [h2, and_self, decide_true, if_true]
      refine Ev.bind (spec_l01In_ev _ _ _) ?_
      by_cases h3 : 0 ≤ v ∧ v ≤ 4
      · simp only [h3, and_self, decide_true, if_true]
        rw [pJournalOk, decide_eq_true ⟨h, h2, h3⟩, Bool.true_and]
        exact Ev.bind (spec_LogOk_ev a b l hl hd) (Ev.now _)
      · simp only [h3, decide_false, Bool.false_eq_true, if_false]
        apply ev_some
        rw [pJournalOk, decide_eq_false (fun q => h3 q.2.2), Bool.false_and]
    · simp only [h2, decide_false, Bool.false_eq_true, if_false]
      apply ev_some
      rw [pJournalOk, decide_eq_false (fun q => h2 q.2.1), Bool.false_and]
  · simp only [h, decide_false, Bool.false_eq_true, if_false]
    apply ev_some
    rw [pJournalOk, decide_eq_false (fun q => h q.1), Bool.false_and]

theorem impl_VarText_l0 (n : Nat) : ∀ xs : List Int, xs.length + n < 140737488355328 → Ev (fun k => impl_VarText.l0 k (n : Int) xs) (strOfNums (xs ++ varN n), true) := by
  induction n using Nat.strongRecOn with
  | ind n ih =>
    intro xs h
    apply ev_succ
    have c2 : xs.length < 140737488355328 := by omega
    by_cases hn : n ≤ 127
    · have c1 : ¬ (n : Int) > 127 := by omega
      simp only [impl_VarText.l0, c1, c2, if_true, if_false]
      apply ev_some
      rw [varN_small hn, show (n : Int) % 256 = n by omega]
    · have c1 : (n : Int) > 127 := by omega
      simp only [impl_VarText.l0, c1, c2, if_true, var_div n (by omega), var_mod n]
      have := ih (n / 128) (by omega) (xs ++ [((n % 128 + 128 : Nat) : Int)]) (by simp; omega)
      rw [varN_big hn]
      simpa using this
theorem impl_VarText_ev (n : Int) : Ev (fun k => impl_VarText.f k n) (pVarText n) := by
  simp only [impl_VarText.f]
  refine Ev.bind (impl_within_ev _ _ _) ?_
  by_cases h : 0 ≤ n ∧ n ≤ 1000000000
  · simp only [h, and_self, decide_true, if_true]
    obtain ⟨m, rfl⟩ := Int.eq_ofNat_of_zero_le h.1
    have := impl_VarText_l0 m [] (by simp; omega)
    rw [pVarText_yes h]
    simpa [varB] using this
  · simp only [h, decide_false, Bool.false_eq_true, if_false]
    rw [pVarText_no h]
    exact Ev.now _

theorem impl_varTexts_ev (l : List Int) (hl : l.length ≤ 1048576) : Ev (fun k => impl_varTexts.f k l) (varsB l) := by
  simp only [impl_varTexts.f]
  have key := loop_up (fun k (s : ByteArray) i => impl_varTexts.l0 k s l (l.length : Int) i) (l.length : Int) (varsB l) (fun s i => s = varsB (l.take i.toNat))
    (fun s hs => by
      rw [List.take_of_length_le (by omega)] at hs
      have c : ¬ (l.length : Int) < (l.length : Int) := by omega
      simp only [impl_varTexts.l0, c, if_false]
      exact ev_some hs)
    (fun s i h0 h1 hs ih => by
      have hz := varsB_size (l.take i.toNat)
      rw [List.length_take] at hz
      have hv := pVarText_size (rd l i)
      have e2 : wrap64 (i + 1) = i + 1 := w64 (by omega) (by omega)
      have c3 : s.size + (pVarText (rd l i)).1.size ≤ 9223372036854775807 := by rw [hs]; omega
      simp only [impl_varTexts.l0, h1, h0, if_true, e2]
      refine Ev.bind (impl_VarText_ev _) ?_
      simp only [c3, if_true]
      refine ih _ ?_
      rw [take_snoc_rd l i h0 h1, varsB_snoc, hs])
  exact key l.length 0 ⟨#[]⟩ (by omega) (by omega) (by simp [varsB])

theorem impl_byteTexts_ev (l : List Int) (hl : l.length ≤ 35184372088832) : Ev (fun k => impl_byteTexts.f k l) (confB l) := by
  simp only [impl_byteTexts.f]
  have key := loop_up (fun k (s : List Int) i => impl_byteTexts.l0 k s l (l.length : Int) i) (l.length : Int) (confB l) (fun s i => s = (l.take i.toNat).map fun x => x % 256)
    (fun s hs => by
      subst hs
      have c : ¬ (l.length : Int) < (l.length : Int) := by omega
      simp only [impl_byteTexts.l0, c, if_false]
      apply ev_some
      rw [List.take_of_length_le (by omega), confB])
    (fun s i h0 h1 hs ih => by
      have hsl : s.length ≤ l.length := by rw [hs, List.length_map, List.length_take]; omega
      have c3 : s.length < 140737488355328 := by omega
      have e2 : wrap64 (i + 1) = i + 1 := w64 (by omega) (by omega)
      simp only [impl_byteTexts.l0, h1, h0, c3, if_true, e2]
      refine ih _ ?_
      rw [map_take_snoc _ l i h0 h1, hs])
  exact key l.length 0 [] (by omega) (by omega) (by simp)

theorem impl_EntryText_ev (idx t kd : Int) (s : ByteArray) (hs : s.size ≤ 1048576) : Ev (fun k => impl_EntryText.f k idx t kd s) (pEntryText idx t kd s) := by
  simp only [impl_EntryText.f]
  refine Ev.bind (impl_EntryOk_ev t kd s hs) ?_
  have hno : ¬ (pEntryOk t kd s = true ∧ 1 ≤ idx ∧ idx ≤ 1000000) → Ev (fun k => impl_EntryText.j0 k idx true t kd s) (pEntryText idx t kd s) := by
    intro hn
    apply ev_succ
    simp only [impl_EntryText.j0, if_true]
    rw [pEntryText_no hn]
    exact Ev.now _
  by_cases ho : pEntryOk t kd s = true
  · simp only [ho, if_true]
    refine Ev.bind (impl_within_ev _ _ _) ?_
    by_cases hi : 1 ≤ idx ∧ idx ≤ 1000000
    · simp only [hi, and_self, decide_true, Bool.not_true]
      have ht := pEntryOk_term ho
      rw [pEntryText_yes ⟨ho, hi⟩]
      apply ev_succ
      simp only [impl_EntryText.j0, Bool.false_eq_true, if_false]
      have h5 := varB_size5 (n := idx.toNat) (by omega)
      have h6 := varB_size5 (n := t.toNat) (by omega)
      have h1 : (⟨#[69]⟩ : ByteArray).size = 1 := rfl
      refine Ev.bind (impl_varTexts_ev [idx, t] (by simp)) ?_
      rw [varsB_two idx t (by omega) (by omega)]
      have c1 : 1 + (varB idx.toNat ++ varB t.toNat).size ≤ 9223372036854775807 := by rw [size_app]; omega
      simp only [c1, if_true]
      refine Ev.bind (impl_byteTexts_ev [kd] (by simp)) ?_
      rw [confB_one]
      have c2 : ((⟨#[69]⟩ : ByteArray) ++ (varB idx.toNat ++ varB t.toNat)).size + (strOfNums [kd % 256]).size ≤ 9223372036854775807 := by rw [size_app, size_app, one_size, h1]; omega
      have c3 : (((⟨#[69]⟩ : ByteArray) ++ (varB idx.toNat ++ varB t.toNat)) ++ strOfNums [kd % 256]).size + s.size ≤ 9223372036854775807 := by rw [size_app, size_app, size_app, one_size, h1]; omega
      simp only [c2, c3, if_true]
      apply ev_some
      rw [entB, app_assoc (⟨#[69]⟩ : ByteArray) (varB idx.toNat) (varB t.toNat)]
    · simp only [hi, decide_false, Bool.not_false]
      exact hno (fun h => hi h.2)
  · simp only [ho, if_false]
    exact hno (fun h => ho h.1)

theorem spec_l01Var_l0 (n : Nat) : ∀ xs : List Int, xs.length + n < 140737488355328 → Ev (fun k => spec_l01Var.l0 k (n : Int) xs) (strOfNums (xs ++ varN n)) := by
  induction n using Nat.strongRecOn with
  | ind n ih =>
    intro xs h
    apply ev_succ
    have c2 : xs.length < 140737488355328 := by omega
    by_cases hn : n ≤ 127
    · have c1 : ¬ (n : Int) > 127 := by omega
      simp only [spec_l01Var.l0, c1, c2, if_true, if_false]
      apply ev_some
      rw [varN_small hn, show (n : Int) % 256 = n by omega]
    · have c1 : (n : Int) > 127 := by omega
      simp only [spec_l01Var.l0, c1, c2, if_true, var_div n (by omega), var_mod n]
      have := ih (n / 128) (by omega) (xs ++ [((n % 128 + 128 : Nat) : Int)]) (by simp; omega)
      rw [varN_big hn]
      simpa using this
theorem spec_l01Var_ev (n : Nat) (h : n < 140737488355328) : Ev (fun k => spec_l01Var.f k (n : Int)) (varB n) := by
  simp only [spec_l01Var.f]
  have := spec_l01Var_l0 n [] (by simpa using h)
  simpa [varB] using this

theorem spec_EntryText_ev (idx t kd : Int) (s : ByteArray) (hs : s.size ≤ 1048576) : Ev (fun k => spec_EntryText.f k idx t kd s) (pEntryText idx t kd s) := by
  simp only [spec_EntryText.f]
  refine Ev.bind (spec_EntryOk_ev t kd s hs) ?_
  have hno : ¬ (pEntryOk t kd s = true ∧ 1 ≤ idx ∧ idx ≤ 1000000) → Ev (fun k => spec_EntryText.j0 k idx true t kd s) (pEntryText idx t kd s) := by
    intro hn
    apply ev_succ
    simp only [spec_EntryText.j0, if_true]
    rw [pEntryText_no hn]
    exact Ev.now _
  by_cases ho : pEntryOk t kd s = true
  · simp only [ho, if_true]
    refine Ev.bind (spec_l01In_ev _ _ _) ?_
    by_cases hi : 1 ≤ idx ∧ idx ≤ 1000000
    · simp only [hi, and_self, decide_true, Bool.not_true]
      have ht := pEntryOk_term ho
      rw [pEntryText_yes ⟨ho, hi⟩]
      obtain ⟨n, rfl⟩ := Int.eq_ofNat_of_zero_le (show 0 ≤ idx by omega)
      obtain ⟨m, rfl⟩ := Int.eq_ofNat_of_zero_le ht.1
      apply ev_succ
      simp only [spec_EntryText.j0, Bool.false_eq_true, if_false]
      have h5 := varB_size5 (n := n) (by omega)
      have h6 := varB_size5 (n := m) (by omega)
      have h1 : (⟨#[69]⟩ : ByteArray).size = 1 := rfl
      refine Ev.bind (spec_l01Var_ev n (by omega)) ?_
      have c1 : 1 + (varB n).size ≤ 9223372036854775807 := by omega
      simp only [c1, if_true]
      refine Ev.bind (spec_l01Var_ev m (by omega)) ?_
      have c2 : ((⟨#[69]⟩ : ByteArray) ++ varB n).size + (varB m).size ≤ 9223372036854775807 := by rw [size_app, h1]; omega
      have c3 : (((⟨#[69]⟩ : ByteArray) ++ varB n) ++ varB m).size + (strOfNums [kd % 256]).size ≤ 9223372036854775807 := by rw [size_app, size_app, one_size, h1]; omega
      have c4 : ((((⟨#[69]⟩ : ByteArray) ++ varB n) ++ varB m) ++ strOfNums [kd % 256]).size + s.size ≤ 9223372036854775807 := by rw [size_app, size_app, size_app, one_size, h1]; omega
      simp only [Option.bind_some, c2, c3, c4, if_true]
      apply ev_some
      rfl
    · simp only [hi, decide_false, Bool.not_false]
      exact hno (fun h => hi h.2)
  · simp only [ho, if_false]
    exact hno (fun h => ho h.1)

theorem impl_SumMore_l1 (s : ByteArray) (i : Int) (h0 : 0 ≤ i) (h1 : i < s.size) (hs : s.size ≤ 140737488351232) (r : Int) : ∀ (m : Nat) (j x : Int), 0 ≤ j → j + m = 8 →
    Ev (fun k => impl_SumMore.l0 k (crcK m x) s (i + 1)) r → Ev (fun k => impl_SumMore.l1 k x s i j) r := by
  intro m
  induction m with
  | zero =>
    intro j x hj hm h
    apply ev_succ
    have c : ¬ j < 8 := by omega
    have e : wrap64 (i + 1) = i + 1 := w64 (by omega) (by omega)
    simp only [impl_SumMore.l1, c, if_false, e]
    exact h
  | succ m ih =>
    intro j x hj hm h
    apply ev_succ
    have c : j < 8 := by omega
    have e : wrap64 (j + 1) = j + 1 := w64 (by omega) (by omega)
    have hh := ih (j + 1) (crc1 x) (by omega) (by omega) h
    by_cases o : Int.tmod x 2 = 1
    · simp only [crc1, o, if_true] at hh
      simp only [impl_SumMore.l1, c, o, if_true, e]
      exact hh
    · simp only [crc1, o, if_false] at hh
      simp only [impl_SumMore.l1, c, o, if_true, if_false, e]
      exact hh
theorem impl_SumMore_l0 (s : ByteArray) (hs : s.size ≤ 140737488351232) : ∀ (d : Nat) (i : Int) (x : Int), 0 ≤ i → i + d = s.size →
    Ev (fun k => impl_SumMore.l0 k x s i) (crcL x ((bytesOf s).drop i.toNat)) := by
  intro d
  induction d with
  | zero =>
    intro i x h0 h
    apply ev_succ
    have c : ¬ i < (s.size : Int) := by omega
    simp only [impl_SumMore.l0, c, if_false]
    apply ev_some
    rw [List.drop_of_length_le (by rw [bytes_len]; omega)]; rfl
  | succ d ih =>
    intro i x h0 h
    apply ev_succ
    have c : i < (s.size : Int) := by omega
    simp only [impl_SumMore.l0, c, h0, if_true]
    have hh := ih (i + 1) (crcB x (bt s i)) (by omega) (by omega)
    rw [drop_bt s i h0 c]
    exact impl_SumMore_l1 s i h0 c hs _ 8 0 _ (by omega) (by omega) hh
theorem impl_SumMore_ev (x : Int) (s : ByteArray) (hs : s.size ≤ 140737488351232) : Ev (fun k => impl_SumMore.f k x s) (crcL x (bytesOf s)) := by
  simp only [impl_SumMore.f]
  exact impl_SumMore_l0 s hs s.size 0 x (by omega) (by omega)

theorem impl_SumOf_ev (s : ByteArray) (hs : s.size ≤ 140737488351232) : Ev (fun k => impl_SumOf.f k s) (sumN s) := by
  simp only [impl_SumOf.f]
  exact Ev.bind (impl_SumMore_ev _ s hs) (Ev.now _)

theorem impl_sumText_ev (s : ByteArray) (hs : s.size ≤ 140737488351232) : Ev (fun k => impl_sumText.f k s) (strOfNums (four (sumN s))) := by
  simp only [impl_sumText.f]
  exact Ev.bind (impl_SumOf_ev s hs) (Ev.now _)

theorem impl_Frame_ev (s : ByteArray) (hs : s.size ≤ 140737488351232) : Ev (fun k => impl_Frame.f k s) (pFrame s) := by
  simp only [impl_Frame.f]
  refine Ev.bind (impl_within_ev _ _ _) ?_
  by_cases h : 1 ≤ s.size ∧ s.size ≤ 9000
  · have h' : 1 ≤ (s.size : Int) ∧ (s.size : Int) ≤ 9000 := by omega
    simp only [h', and_self, decide_true, if_true]
    refine Ev.bind (impl_VarText_ev _) ?_
    rw [pVarText_yes (by omega), pFrame_yes h]
    refine Ev.bind (impl_sumText_ev s hs) ?_
    have hv := (varN_len s.size).2
    have c1 : (varB s.size).size + (strOfNums (four (sumN s))).size ≤ 9223372036854775807 := by rw [varB, str_len, str_len]; simp [four]; omega
    have c2 : (varB s.size ++ strOfNums (four (sumN s))).size + s.size ≤ 9223372036854775807 := by rw [size_app, varB, str_len, str_len]; simp [four]; omega
    simp only [Int.toNat_natCast, c1, c2, if_true]
    exact Ev.now _
  · have h' : ¬ (1 ≤ (s.size : Int) ∧ (s.size : Int) ≤ 9000) := by omega
    simp only [h', decide_false, Bool.false_eq_true, if_false]
    rw [pFrame_no h]
    exact Ev.now _

theorem spec_SumMore_l1 (s : ByteArray) (i : Int) (h0 : 0 ≤ i) (h1 : i < s.size) (hs : s.size ≤ 140737488351232) (r : Int) : ∀ (m : Nat) (j x : Int), 0 ≤ j → j + m = 8 →
    Ev (fun k => spec_SumMore.l0 k (crcK m x) s (i + 1)) r → Ev (fun k => spec_SumMore.l1 k x s i j) r := by
  intro m
  induction m with
  | zero =>
    intro j x hj hm h
    apply ev_succ
    have c : ¬ j < 8 := by omega
    have e : wrap64 (i + 1) = i + 1 := w64 (by omega) (by omega)
    simp only [spec_SumMore.l1, c, if_false, e]
    exact h
  | succ m ih =>
    intro j x hj hm h
    apply ev_succ
    have c : j < 8 := by omega
    have e : wrap64 (j + 1) = j + 1 := w64 (by omega) (by omega)
    have hh := ih (j + 1) (crc1 x) (by omega) (by omega) h
    by_cases o : Int.tmod x 2 = 1
    · simp only [crc1, o, if_true] at hh
      simp only [spec_SumMore.l1, c, o, if_true, e]
      exact hh
    · simp only [crc1, o, if_false] at hh
      simp only [spec_SumMore.l1, c, o, if_true, if_false, e]
      exact hh
theorem spec_SumMore_l0 (s : ByteArray) (hs : s.size ≤ 140737488351232) : ∀ (d : Nat) (i : Int) (x : Int), 0 ≤ i → i + d = s.size →
    Ev (fun k => spec_SumMore.l0 k x s i) (crcL x ((bytesOf s).drop i.toNat)) := by
  intro d
  induction d with
  | zero =>
    intro i x h0 h
    apply ev_succ
    have c : ¬ i < (s.size : Int) := by omega
    simp only [spec_SumMore.l0, c, if_false]
    apply ev_some
    rw [List.drop_of_length_le (by rw [bytes_len]; omega)]; rfl
  | succ d ih =>
    intro i x h0 h
    apply ev_succ
    have c : i < (s.size : Int) := by omega
    simp only [spec_SumMore.l0, c, h0, if_true]
    have hh := ih (i + 1) (crcB x (bt s i)) (by omega) (by omega)
    rw [drop_bt s i h0 c]
    exact spec_SumMore_l1 s i h0 c hs _ 8 0 _ (by omega) (by omega) hh
theorem spec_SumMore_ev (x : Int) (s : ByteArray) (hs : s.size ≤ 140737488351232) : Ev (fun k => spec_SumMore.f k x s) (crcL x (bytesOf s)) := by
  simp only [spec_SumMore.f]
  exact spec_SumMore_l0 s hs s.size 0 x (by omega) (by omega)

theorem spec_SumOf_ev (s : ByteArray) (hs : s.size ≤ 140737488351232) : Ev (fun k => spec_SumOf.f k s) (sumN s) := by
  simp only [spec_SumOf.f]
  exact Ev.bind (spec_SumMore_ev _ s hs) (Ev.now _)

theorem spec_l02Four_ev (x : Int) : Ev (fun _ => spec_l02Four.f x) (strOfNums (four x)) := ev_const rfl

theorem spec_Frame_ev (s : ByteArray) (hs : s.size ≤ 140737488351232) : Ev (fun k => spec_Frame.f k s) (pFrame s) := by
  simp only [spec_Frame.f]
  refine Ev.bind (spec_l01In_ev _ _ _) ?_
  by_cases h : 1 ≤ s.size ∧ s.size ≤ 9000
  · have h' : 1 ≤ (s.size : Int) ∧ (s.size : Int) ≤ 9000 := by omega
    simp only [h', and_self, decide_true, if_true]
    refine Ev.bind (spec_l01Var_ev s.size (by omega)) ?_
    refine Ev.bind (spec_SumOf_ev s hs) ?_
    refine Ev.bind (spec_l02Four_ev _) ?_
    rw [pFrame_yes h]
    have hv := (varN_len s.size).2
    have c1 : (varB s.size).size + (strOfNums (four (sumN s))).size ≤ 9223372036854775807 := by rw [varB, str_len, str_len]; simp [four]; omega
    have c2 : (varB s.size ++ strOfNums (four (sumN s))).size + s.size ≤ 9223372036854775807 := by rw [size_app, varB, str_len, str_len]; simp [four]; omega
    simp only [c1, c2, if_true]
    exact Ev.now _
  · have h' : ¬ (1 ≤ (s.size : Int) ∧ (s.size : Int) ≤ 9000) := by omega
    simp only [h', decide_false, Bool.false_eq_true, if_false]
    rw [pFrame_no h]
    exact Ev.now _

def pTerm (a b : Int) (l : List (S67)) (i : Int) : Int := if i = a then b else if a < i ∧ i - a ≤ l.length then (rd_T67 l (i - a - 1)).f0 else -1
def eqE (x y : S67) : Bool := x.f0 == y.f0 && (x.f1 == y.f1 && (x.f2.toList == y.f2.toList))
def shC (a : Int) (l : List (S67)) (c : Int) (m : List (S67)) (x : Int) : Prop :=
  x < a + l.length ∧ x < c + m.length ∧ eqE (rd_T67 l (x - a)) (rd_T67 m (x - c)) = true
instance (a : Int) (l : List (S67)) (c : Int) (m : List (S67)) (x : Int) : Decidable (shC a l c m x) := by unfold shC; infer_instance
def pShL (a : Int) (l : List (S67)) (c : Int) (m : List (S67)) : Nat → Int → Int
  | 0, x => x
  | f + 1, x => if shC a l c m x then pShL a l c m f (x + 1) else x
theorem pShL_yes {a c x : Int} {l m : List (S67)} {f : Nat} (h : shC a l c m x) : pShL a l c m (f + 1) x = pShL a l c m f (x + 1) := by rw [pShL, if_pos h]
theorem pShL_no {a c x : Int} {l m : List (S67)} {f : Nat} (h : ¬ shC a l c m x) : pShL a l c m (f + 1) x = x := by rw [pShL, if_neg h]
def shOk (a b : Int) (l : List (S67)) (c d : Int) (m : List (S67)) : Prop :=
  (pLogOk a b l = true ∧ pLogOk c d m = true) ∧ ¬ pTerm a b l (if c > a then c else a) < 0 ∧ pTerm a b l (if c > a then c else a) = pTerm c d m (if c > a then c else a)
instance (a b : Int) (l : List (S67)) (c d : Int) (m : List (S67)) : Decidable (shOk a b l c d m) := by unfold shOk; infer_instance
def pShared (a b : Int) (l : List (S67)) (c d : Int) (m : List (S67)) : Int := if shOk a b l c d m then pShL a l c m (l.length + 1) (if c > a then c else a) else -1
theorem pShared_yes {a b c d : Int} {l m : List (S67)} (h : shOk a b l c d m) : pShared a b l c d m = pShL a l c m (l.length + 1) (if c > a then c else a) := by rw [pShared, if_pos h]
theorem pShared_no {a b c d : Int} {l m : List (S67)} (h : ¬ shOk a b l c d m) : pShared a b l c d m = -1 := by rw [pShared, if_neg h]
theorem pEnts_terms : ∀ (l : List (S67)) (t : Int), pEnts t l = true → ∀ x ∈ l, 0 ≤ x.f0 ∧ pEntryOk x.f0 x.f1 x.f2 = true := by
  intro l
  induction l with
  | nil => intro t _ x hx; simp at hx
  | cons e l ih =>
    intro t h x hx
    simp only [pEnts, Bool.and_eq_true, decide_eq_true_eq] at h
    rcases List.mem_cons.1 hx with rfl | hx
    · have h1 := h.1.1
      simp only [pEntryOk, Bool.and_eq_true, decide_eq_true_eq] at h1
      exact ⟨h1.1.1, h.1.1⟩
    · exact ih _ h.2 x hx
theorem pLogOk_facts {a b : Int} {l : List (S67)} (h : pLogOk a b l = true) : (0 ≤ a ∧ a ≤ 1000000) ∧ (0 ≤ b ∧ b ≤ 100000) ∧ l.length ≤ 60 ∧ a + l.length ≤ 1000000 ∧ ∀ x ∈ l, 0 ≤ x.f0 ∧ pEntryOk x.f0 x.f1 x.f2 = true := by
  simp only [pLogOk, Bool.and_eq_true, decide_eq_true_eq] at h
  exact ⟨h.1.1, h.1.2.1, h.1.2.2.1, h.1.2.2.2, pEnts_terms l b h.2⟩
theorem rd_mem_ent (l : List (S67)) (i : Int) (h0 : 0 ≤ i) (h1 : i < l.length) : rd_T67 l i ∈ l :=
  List.mem_of_mem_drop (i := i.toNat) (by rw [drop_ent l i h0 h1]; exact List.mem_cons_self)

def jEnt (b : Int) (e : S67) (i : Int) : ByteArray := (pFrame (pEntryText (b + 1 + i) e.f0 e.f1 e.f2).1).1
def jEnts (b : Int) (l : List (S67)) : Nat → Int → ByteArray
  | 0, _ => ⟨#[]⟩
  | d + 1, i => jEnt b (rd_T67 l i) i ++ jEnts b l d (i + 1)
theorem pFrame_size (s : ByteArray) : (pFrame s).1.size ≤ 9009 := by
  by_cases h : 1 ≤ s.size ∧ s.size ≤ 9000
  · rw [pFrame_yes h]
    have h5 := varB_size5 (n := s.size) (by omega)
    have h4 : (strOfNums (four (sumN s))).size = 4 := by rw [str_len]; rfl
    show (frameB s).size ≤ 9009
    unfold frameB
    rw [size_app, size_app, h4]; omega
  · rw [pFrame_no h]; exact Nat.zero_le _
theorem jEnts_size (b : Int) (l : List (S67)) : ∀ (d : Nat) (i : Int), (jEnts b l d i).size ≤ 9009 * d := by
  intro d
  induction d with
  | zero => intro i; exact Nat.zero_le _
  | succ d ih =>
    intro i
    have h1 := ih (i + 1)
    have h2 : (jEnt b (rd_T67 l i) i).size ≤ 9009 := pFrame_size _
    show (jEnt b (rd_T67 l i) i ++ jEnts b l d (i + 1)).size ≤ _
    rw [size_app]; omega
theorem pEntryText_size (x t kd : Int) (s : ByteArray) (hs : s.size ≤ 1048576) : (pEntryText x t kd s).1.size ≤ 1048600 := by
  by_cases h : pEntryOk t kd s = true ∧ 1 ≤ x ∧ x ≤ 1000000
  · rw [pEntryText_yes h]
    have ht := pEntryOk_term h.1
    have h5 := varB_size5 (n := x.toNat) (by omega)
    have h6 := varB_size5 (n := t.toNat) (by omega)
    have h1 : (⟨#[69]⟩ : ByteArray).size = 1 := rfl
    show (entB x t kd s).size ≤ _
    unfold entB
    rw [size_app, size_app, size_app, size_app, one_size, h1]; omega
  · rw [pEntryText_no h]; exact Nat.zero_le _
theorem impl_entriesText_ev (b t : Int) (hb : 0 ≤ b ∧ b ≤ 1000000) (l : List (S67)) (hl : l.length ≤ 60) (hd : ∀ x ∈ l, x.f2.size ≤ 1048576) : ∀ (d : Nat) (i : Int) (acc : ByteArray), 0 ≤ i → i + d = l.length → acc.size + 9009 * d ≤ 9223372036854775807 →
    Ev (fun k => impl_entriesText.l0 k acc i b t l) (acc ++ jEnts b l d i) := by
  intro d
  induction d with
  | zero =>
    intro i acc h0 h1 h2
    apply ev_succ
    have c : ¬ i < (l.length : Int) := by omega
    simp only [impl_entriesText.l0, c, if_false]
    apply ev_some
    exact (app_nil acc).symm
  | succ d ih =>
    intro i acc h0 h1 h2
    apply ev_succ
    have c : i < (l.length : Int) := by omega
    have e1 : wrap64 (b + i) = b + i := w64 (by omega) (by omega)
    have e2 : wrap64 (b + i + 1) = b + i + 1 := w64 (by omega) (by omega)
    have e3 : wrap64 (i + 1) = i + 1 := w64 (by omega) (by omega)
    have hs := hd _ (rd_mem_ent l i h0 c)
    have hz := pEntryText_size (b + i + 1) (rd_T67 l i).f0 (rd_T67 l i).f1 _ hs
    have hf := pFrame_size (pEntryText (b + i + 1) (rd_T67 l i).f0 (rd_T67 l i).f1 (rd_T67 l i).f2).1
    simp only [impl_entriesText.l0, c, h0, if_true, e1, e2]
    refine Ev.bind (impl_EntryText_ev _ _ _ _ hs) ?_
    refine Ev.bind (impl_Frame_ev _ (by omega)) ?_
    have c2 : acc.size + (pFrame (pEntryText (b + i + 1) (rd_T67 l i).f0 (rd_T67 l i).f1 (rd_T67 l i).f2).1).1.size ≤ 9223372036854775807 := by omega
    simp only [c2, if_true, e3]
    have e4 : b + i + 1 = b + 1 + i := by omega
    rw [e4] at hf ⊢
    have := ih (i + 1) (acc ++ jEnt b (rd_T67 l i) i) (by omega) (by omega) (by rw [size_app]; unfold jEnt; omega)
    rw [app_assoc] at this
    exact this
theorem spec_l07Frames_ev (b t : Int) (hb : 0 ≤ b ∧ b ≤ 1000000) (l : List (S67)) (hl : l.length ≤ 60) (hd : ∀ x ∈ l, x.f2.size ≤ 1048576) : ∀ (d : Nat) (i : Int) (acc : ByteArray), 0 ≤ i → i + d = l.length → acc.size + 9009 * d ≤ 140737488355328 →
    Ev (fun k => spec_l07Frames.l0 k (bytesOf acc) i b t l) (acc ++ jEnts b l d i) := by
  intro d
  induction d with
  | zero =>
    intro i acc h0 h1 h2
    apply ev_succ
    have c : ¬ i < (l.length : Int) := by omega
    simp only [spec_l07Frames.l0, c, if_false]
    apply ev_some
    rw [str_bytes]
    exact (app_nil acc).symm
  | succ d ih =>
    intro i acc h0 h1 h2
    apply ev_succ
    have c : i < (l.length : Int) := by omega
    have e1 : wrap64 (b + 1) = b + 1 := w64 (by omega) (by omega)
    have e2 : wrap64 (b + 1 + i) = b + 1 + i := w64 (by omega) (by omega)
    have e3 : wrap64 (i + 1) = i + 1 := w64 (by omega) (by omega)
    have hs := hd _ (rd_mem_ent l i h0 c)
    have hz := pEntryText_size (b + 1 + i) (rd_T67 l i).f0 (rd_T67 l i).f1 _ hs
    have hf := pFrame_size (pEntryText (b + 1 + i) (rd_T67 l i).f0 (rd_T67 l i).f1 (rd_T67 l i).f2).1
    simp only [spec_l07Frames.l0, c, h0, if_true, e1, e2]
    refine Ev.bind (spec_EntryText_ev _ _ _ _ hs) ?_
    refine Ev.bind (spec_Frame_ev _ (by omega)) ?_
    have c2 : (bytesOf acc).length + (pFrame (pEntryText (b + 1 + i) (rd_T67 l i).f0 (rd_T67 l i).f1 (rd_T67 l i).f2).1).1.size ≤ 140737488355328 := by rw [bytes_len]; omega
    simp only [c2, if_true, e3]
    have := ih (i + 1) (acc ++ jEnt b (rd_T67 l i) i) (by omega) (by omega) (by rw [size_app]; unfold jEnt; omega)
    rw [app_assoc, bytes_app] at this
    exact this
def jHead (c : UInt8) (a b : Int) : ByteArray := (pFrame (((⟨#[c]⟩ : ByteArray) ++ varB a.toNat) ++ varB b.toNat)).1
def pJournalText (n t v a b : Int) (l : List (S67)) : ByteArray × Bool :=
  if pJournalOk n t v a b l = true then
    (if (((jHead 66 a b ++ jHead 72 t v) ++ jEnts a l l.length 0).size : Int) > 20000 then (⟨#[]⟩, false) else ((jHead 66 a b ++ jHead 72 t v) ++ jEnts a l l.length 0, true)) else (⟨#[]⟩, false)
theorem one1 (c : UInt8) : (⟨#[c]⟩ : ByteArray).size = 1 := rfl
theorem impl_JournalText_ev (n t v a b : Int) (l : List (S67)) (hl : l.length ≤ 1048576) (hd : ∀ x ∈ l, x.f2.size ≤ 1048576) : Ev (fun k => impl_JournalText.f k n t v a b l) (pJournalText n t v a b l) := by
  simp only [impl_JournalText.f]
  refine Ev.bind (impl_JournalOk_ev n t v a b l hl hd) ?_
  unfold pJournalText
  by_cases ho : pJournalOk n t v a b l = true
  · have ho' := ho
    simp only [pJournalOk, Bool.and_eq_true, decide_eq_true_eq] at ho'
    obtain ⟨f1, f2, f3, f4, _⟩ := pLogOk_facts ho'.2
    have v1 := varB_size5 (n := a.toNat) (by omega)
    have v2 := varB_size5 (n := b.toNat) (by omega)
    have v3 := varB_size5 (n := t.toNat) (by omega)
    have v4 := varB_size5 (n := v.toNat) (by omega)
    simp only [ho, if_true]
    refine Ev.bind (impl_varTexts_ev [a, b] (by simp)) ?_
    rw [varsB_two a b (by omega) (by omega)]
    have c1 : 1 + (varB a.toNat ++ varB b.toNat).size ≤ 9223372036854775807 := by rw [size_app]; omega
    simp only [c1, if_true]
    refine Ev.bind (impl_Frame_ev _ (by rw [size_app, size_app, one1]; omega)) ?_
    simp only [impl_headText.f]
    have hh : Ev (fun k => (impl_varTexts.f k [t, v]).bind fun t274 => (if 1 + t274.size ≤ 9223372036854775807 then ((impl_Frame.f k ((⟨#[72]⟩ : ByteArray) ++ t274)).bind fun bt275 => (some bt275.1)) else (none))) (jHead 72 t v) := by
      refine Ev.bind (impl_varTexts_ev [t, v] (by simp)) ?_
      rw [varsB_two t v (by omega) (by omega)]
      have c1 : 1 + (varB t.toNat ++ varB v.toNat).size ≤ 9223372036854775807 := by rw [size_app]; omega
      simp only [c1, if_true]
      refine Ev.bind (impl_Frame_ev _ (by rw [size_app, size_app, one1]; omega)) ?_
      apply ev_some
      rw [jHead, app_assoc]
    refine Ev.bind hh ?_
    have s1 := pFrame_size ((⟨#[66]⟩ : ByteArray) ++ (varB a.toNat ++ varB b.toNat))
    have s2 : (jHead 72 t v).size ≤ 9009 := pFrame_size _
    have c2 : (pFrame ((⟨#[66]⟩ : ByteArray) ++ (varB a.toNat ++ varB b.toNat))).1.size + (jHead 72 t v).size ≤ 9223372036854775807 := by omega
    simp only [c2, if_true]
    have hE := impl_entriesText_ev a b f1 l f3 hd l.length 0 (⟨#[]⟩ : ByteArray) (by omega) (by omega) (by have : (⟨#[]⟩ : ByteArray).size = 0 := rfl; omega)
    rw [nil_app] at hE
    refine Ev.bind (by simp only [impl_entriesText.f]; exact hE) ?_
    have s3 := jEnts_size a l l.length 0
    have e66 : (pFrame ((⟨#[66]⟩ : ByteArray) ++ (varB a.toNat ++ varB b.toNat))).1 = jHead 66 a b := by rw [jHead, app_assoc]
    rw [e66] at s1 ⊢
    have c3 : (jHead 66 a b ++ jHead 72 t v).size + (jEnts a l l.length 0).size ≤ 9223372036854775807 := by rw [size_app]; omega
    simp only [c3, if_true]
    by_cases c4 : (((jHead 66 a b ++ jHead 72 t v) ++ jEnts a l l.length 0).size : Int) > 20000
    · simp only [c4, if_true]; exact Ev.now _
    · simp only [c4, if_false]; exact Ev.now _
  · simp only [ho, if_false]; exact Ev.now _
theorem spec_JournalText_ev (n t v a b : Int) (l : List (S67)) (hl : l.length ≤ 1048576) (hd : ∀ x ∈ l, x.f2.size ≤ 1048576) : Ev (fun k => spec_JournalText.f k n t v a b l) (pJournalText n t v a b l) := by
  simp only [spec_JournalText.f]
  refine Ev.bind (spec_JournalOk_ev n t v a b l hl hd) ?_
  unfold pJournalText
  by_cases ho : pJournalOk n t v a b l = true
  · have ho' := ho
    simp only [pJournalOk, Bool.and_eq_true, decide_eq_true_eq] at ho'
    obtain ⟨f1, f2, f3, f4, _⟩ := pLogOk_facts ho'.2
    have v1 := varB_size5 (n := a.toNat) (by omega)
    have v2 := varB_size5 (n := b.toNat) (by omega)
    have v3 := varB_size5 (n := t.toNat) (by omega)
    have v4 := varB_size5 (n := v.toNat) (by omega)
    have w1 := spec_l01Var_ev a.toNat (by omega)
    have w2 := spec_l01Var_ev b.toNat (by omega)
    have w3 := spec_l01Var_ev t.toNat (by omega)
    have w4 := spec_l01Var_ev v.toNat (by omega)
    rw [Int.toNat_of_nonneg f1.1] at w1
    rw [Int.toNat_of_nonneg f2.1] at w2
    rw [Int.toNat_of_nonneg ho'.1.2.1.1] at w3
    rw [Int.toNat_of_nonneg ho'.1.2.2.1] at w4
    simp only [ho, if_true]
    refine Ev.bind w1 ?_
    have c1 : 1 + (varB a.toNat).size ≤ 9223372036854775807 := by omega
    simp only [c1, if_true]
    refine Ev.bind w2 ?_
    have c2 : ((⟨#[66]⟩ : ByteArray) ++ varB a.toNat).size + (varB b.toNat).size ≤ 9223372036854775807 := by rw [size_app, one1]; omega
    simp only [c2, if_true]
    refine Ev.bind (spec_Frame_ev _ (by rw [size_app, size_app, one1]; omega)) ?_
    have hh : Ev (fun k => spec_l07Hard.f k t v) (jHead 72 t v) := by
      simp only [spec_l07Hard.f]
      refine Ev.bind w3 ?_
      have c1 : 1 + (varB t.toNat).size ≤ 9223372036854775807 := by omega
      simp only [c1, if_true]
      refine Ev.bind w4 ?_
      have c2 : ((⟨#[72]⟩ : ByteArray) ++ varB t.toNat).size + (varB v.toNat).size ≤ 9223372036854775807 := by rw [size_app, one1]; omega
      simp only [c2, if_true]
      refine Ev.bind (spec_Frame_ev _ (by rw [size_app, size_app, one1]; omega)) ?_
      exact Ev.now _
    refine Ev.bind hh ?_
    have s1 : (jHead 66 a b).size ≤ 9009 := pFrame_size _
    have s2 : (jHead 72 t v).size ≤ 9009 := pFrame_size _
    have e66 : (pFrame (((⟨#[66]⟩ : ByteArray) ++ varB a.toNat) ++ varB b.toNat)).1 = jHead 66 a b := rfl
    rw [e66]
    have c3 : (jHead 66 a b).size + (jHead 72 t v).size ≤ 9223372036854775807 := by omega
    simp only [c3, if_true]
    have hE := spec_l07Frames_ev a b f1 l f3 hd l.length 0 (⟨#[]⟩ : ByteArray) (by omega) (by omega) (by have : (⟨#[]⟩ : ByteArray).size = 0 := rfl; omega)
    rw [nil_app] at hE
    refine Ev.bind (by simp only [spec_l07Frames.f]; exact hE) ?_
    have s3 := jEnts_size a l l.length 0
    have c4 : (jHead 66 a b ++ jHead 72 t v).size + (jEnts a l l.length 0).size ≤ 9223372036854775807 := by rw [size_app]; omega
    simp only [c4, if_true]
    by_cases c5 : (((jHead 66 a b ++ jHead 72 t v) ++ jEnts a l l.length 0).size : Int) > 20000
    · simp only [c5, if_true]; exact Ev.now _
    · simp only [c5, if_false]; exact Ev.now _
  · simp only [ho, if_false]; exact Ev.now _
theorem FnExactJournalText : OpenFnExactJournalText.Stmt := by
  intro n t v a b l hn ht hv ha hb hl
  apply ev_rounds
  simp only [laws_FnExactJournalText.f]
  obtain ⟨r, hr, hrr⟩ := laws_szJournal_ev n t v a b l 1048576 (by decide) (by decide) hl.1 (fun x hx => (hl.2 x hx).2.2)
  refine Ev.bind hr ?_
  rcases hrr with hn | ⟨hn, hle, hll, hg⟩
  · simp only [hn, if_true]
    exact Ev.now _
  · have hn' : ¬ r < 0 := by omega
    simp only [hn', if_false]
    have hlen : l.length ≤ 1048576 := by omega
    have hlen' : (l.map cvEntry).length ≤ 1048576 := by simpa using hlen
    have hd : ∀ x ∈ l.map cvEntry, x.f2.size ≤ 1048576 := by
      intro x hx
      obtain ⟨y, hy, rfl⟩ := List.mem_map.1 hx
      have := hg y hy
      show y.f2.size ≤ _
      omega
    have ht := laws_toJournal_ev n t v a b l hlen
    refine Ev.bind ht ?_
    refine Ev.bind (spec_JournalText_ev _ _ _ _ _ _ hlen' hd) ?_
    refine Ev.bind ht ?_
    refine Ev.bind (impl_JournalText_ev _ _ _ _ _ _ hlen' hd) ?_
    simp only [bne_self_eq_false, if_true]
    apply ev_succ
    simp only [laws_FnExactJournalText.j0, Bool.false_eq_true, if_false]
    refine Ev.bind ht ?_
    refine Ev.bind (laws_eqJournal_ev _ _ _ _ _ _ (by rw [List.length_map]; omega)) ?_
    simp

end Go.Proofs.Ytaainenplcokaaa.Pure
