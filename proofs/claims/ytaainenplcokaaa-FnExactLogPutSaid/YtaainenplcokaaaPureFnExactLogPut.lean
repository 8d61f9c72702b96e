/- LogPut of the program and of the reference answer the same for every log, index and entry; the log given stays as it is, and the answer shares nothing with it. -/
import Derived.Test.YtaainenplcokaaaOpenFnExactLogPut
import Derived.Test.YtaainenplcokaaaBaseL
namespace Go.Proofs.Ytaainenplcokaaa.Pure
open Go.RowKit Go.Proofs.Ytaainenplcokaaa.QFnExactLogPut Go.Proofs.YtaainenplcokaaaW.PrintWords Go.Proofs.YtaainenplcokaaaW.PrintLast Go.Proofs.YtaainenplcokaaaW.PrintMore Go.Proofs.Ytaainenplcokaaa.Base
set_option linter.unusedVariables false
set_option linter.unusedSimpArgs false

theorem laws_szEntry_ev (a0 : Int) (a1 : Int) (a2 : ByteArray) (left : Int) (h0 : 0 ≤ left) (h1 : left ≤ 1048576) (g2 : a2.size ≤ 9223372036854775807) : ∃ r : Int, Ev (fun _ => laws_szEntry.f a0 a1 a2 left) r ∧ (r < 0 ∨ (0 ≤ r ∧ r = left - (a2.size : Int))) := by
  have e1 : wrap64 (left - (a2.size : Int)) = left - (a2.size : Int) := w64 (by omega) (by omega)
  by_cases c1 : left - (a2.size : Int) < 0
  · refine ⟨-1, ev_const ?_, Or.inl (by decide)⟩
    simp only [laws_szEntry.f, e1, c1, if_true]
  · refine ⟨left - (a2.size : Int), ev_const ?_, Or.inr ⟨by omega, rfl⟩⟩
    simp only [laws_szEntry.f, e1, c1, if_false]
theorem laws_szEntryS_l0 (l : List (S88)) (hl : l.length ≤ 1048576) (hg : ∀ x : S88, x ∈ l → x.f2.size ≤ 9223372036854775807) : ∀ (d : Nat) (i left : Int), 0 ≤ i → i + d = l.length → 0 ≤ left → left ≤ 1048576 →
    ∃ r : Int, Ev (fun k => laws_szEntryS.l0 k l left i) r ∧ (r < 0 ∨ (0 ≤ r ∧ r ≤ left ∧ ∀ x : S88, x ∈ l.drop i.toNat → (x.f2.size : Int) ≤ left)) := by
  intro d
  induction d with
  | zero =>
    intro i left h0 h hl0 hl1
    refine ⟨left, ev_succ ?_, Or.inr ⟨hl0, Int.le_refl _, fun x hx => ?_⟩⟩
    · have c : ¬ i < (l.length : Int) := by omega
      simp only [laws_szEntryS.l0, c, if_false]
      exact Ev.now _
    · rw [List.drop_of_length_le (by omega)] at hx
      simp at hx
  | succ d ih =>
    intro i left h0 h hl0 hl1
    have c : i < (l.length : Int) := by omega
    have hd : l.drop i.toNat = rd_T88 l i :: l.drop (i + 1).toNat := drop_get l i h0 c z88
    have hm : rd_T88 l i ∈ l := List.mem_of_mem_drop (i := i.toNat) (by rw [hd]; exact List.mem_cons_self)
    have hq := hg _ hm
    obtain ⟨r, hr, hrr⟩ := laws_szEntry_ev (rd_T88 l i).f0 (rd_T88 l i).f1 (rd_T88 l i).f2 left hl0 hl1 hq
    have e : wrap64 (i + 1) = i + 1 := w64 (by omega) (by omega)
    by_cases hn : r < 0
    · refine ⟨-1, ev_succ ?_, Or.inl (by decide)⟩
      simp only [laws_szEntryS.l0, c, h0, if_true]
      refine Ev.bind hr ?_
      simp only [hn, if_true]
      exact Ev.now _
    · have hrr' := hrr.resolve_left hn
      obtain ⟨q, hq1, hq2⟩ := ih (i + 1) r (by omega) (by omega) hrr'.1 (by omega)
      refine ⟨q, ev_succ ?_, ?_⟩
      · simp only [laws_szEntryS.l0, c, h0, if_true, e]
        refine Ev.bind hr ?_
        simp only [hn, if_false]
        exact hq1
      · rcases hq2 with hq2 | ⟨hq2, hq3, hq4⟩
        · exact Or.inl hq2
        · refine Or.inr ⟨hq2, by omega, fun x hx => ?_⟩
          rw [hd] at hx
          rcases List.mem_cons.1 hx with rfl | hx
          · omega
          · have := hq4 x hx
            omega
theorem laws_szEntryS_ev (l : List (S88)) (left : Int) (h0 : 0 ≤ left) (h1 : left ≤ 1048576) (hl : l.length ≤ 9223372036854775807) (hg : ∀ x : S88, x ∈ l → x.f2.size ≤ 9223372036854775807) :
    ∃ r : Int, Ev (fun k => laws_szEntryS.f k l left) r ∧ (r < 0 ∨ (0 ≤ r ∧ r ≤ left ∧ (l.length : Int) ≤ left ∧ ∀ x : S88, x ∈ l → (x.f2.size : Int) ≤ left)) := by
  have e : wrap64 (left - (l.length : Int)) = left - (l.length : Int) := w64 (by omega) (by omega)
  by_cases c : left - (l.length : Int) < 0
  · refine ⟨-1, ?_, Or.inl (by decide)⟩
    simp only [laws_szEntryS.f, e, c, if_true]
    exact Ev.now _
  · obtain ⟨r, hr, hrr⟩ := laws_szEntryS_l0 l (by omega) hg l.length 0 (left - l.length) (by omega) (by omega) (by omega) (by omega)
    refine ⟨r, ?_, ?_⟩
    · simp only [laws_szEntryS.f, e, c, if_false]
      exact hr
    · rcases hrr with hrr | ⟨h2, h3, h4⟩
      · exact Or.inl hrr
      · refine Or.inr ⟨h2, by omega, by omega, fun x hx => ?_⟩
        have := h4 x (by simpa using hx)
        omega

def cvEntry (x : S88) : S67 := ⟨x.f0, x.f1, x.f2⟩
theorem laws_toEntry_ev (a0 : Int) (a1 : Int) (a2 : ByteArray) : Ev (fun _ => laws_toEntry.f a0 a1 a2) (a0, a1, a2) := ev_const rfl
theorem laws_toEntryS_ev (l : List (S88)) (hl : l.length ≤ 1048576) : Ev (fun k => laws_toEntryS.f k l) (l.map cvEntry) := by
  have c1 : 0 ≤ (l.length : Int) := by omega
  have c2 : ∀ n : Nat, 1048576 ≤ n → ((l.length : Int)).toNat ≤ n := fun n h => by omega
  simp only [laws_toEntryS.f, c1, if_true]
  rw [ev_if (c2 _ (by decide))]
  have key := loop_up (fun k (b : List (S67)) i => laws_toEntryS.l0 k l b i) (l.length : Int) (l.map cvEntry) (fun b i => b.length = l.length ∧ b.take i.toNat = (l.map cvEntry).take i.toNat)
    (fun b hs => by
      obtain ⟨hb, ht⟩ := hs
      have c : ¬ (l.length : Int) < (l.length : Int) := by omega
      simp only [laws_toEntryS.l0, c, if_false]
      apply ev_some
      rw [List.take_of_length_le (by omega), List.take_of_length_le (by rw [List.length_map]; omega)] at ht
      exact ht)
    (fun b i h0 h1 hs ih => by
      obtain ⟨hb, ht⟩ := hs
      have c : i < (b.length : Int) := by omega
      have e2 : wrap64 (i + 1) = i + 1 := w64 (by omega) (by omega)
      simp only [laws_toEntryS.l0, h1, h0, if_true, e2]
      refine Ev.bind (laws_toEntry_ev _ _ _) ?_
      simp only [c, if_true]
      refine ih _ ⟨by rw [List.length_set]; exact hb, ?_⟩
      rw [show (i + 1).toNat = i.toNat + 1 by omega]
      refine take_set (l.map cvEntry) b i.toNat _ (by rw [List.length_map]; exact hb) (by rw [List.length_map]; omega) ht ?_
      rw [List.getElem?_map, getElem_rd l i h0 h1 z88]
      rfl)
  exact key l.length 0 _ (by omega) (by omega) ⟨by simp, by simp⟩

theorem laws_eqEntry_ev (a0 : Int) (a1 : Int) (a2 : ByteArray) : Ev (fun _ => laws_eqEntry.f a0 a1 a2 a0 a1 a2) true := by
  apply ev_const
  simp [laws_eqEntry.f]

theorem laws_eqEntryS_ev (l : List (S67)) (hl : l.length ≤ 140737488355328) : Ev (fun k => laws_eqEntryS.f k l l) true := by
  simp only [laws_eqEntryS.f, if_true]
  have key := loop_up (fun k (_ : Unit) i => laws_eqEntryS.l0 k l l i) (l.length : Int) true (fun _ _ => True)
    (fun _ _ => by
      have c : ¬ (l.length : Int) < (l.length : Int) := by omega
      simp only [laws_eqEntryS.l0, c, if_false]
      exact Ev.now _)
    (fun _ i h0 h1 _ ih => by
      have e2 : wrap64 (i + 1) = i + 1 := w64 (by omega) (by omega)
      simp only [laws_eqEntryS.l0, h1, h0, if_true, e2]
      refine Ev.bind (laws_eqEntry_ev _ _ _) ?_
      simp only [if_true]
      exact ih () trivial)
  exact key l.length 0 () (by omega) (by omega) trivial

theorem laws_szLog_ev (a b : Int) (l : List (S88)) (left : Int) (h0 : 0 ≤ left) (h1 : left ≤ 1048576) (hl : l.length ≤ 9223372036854775807) (hg : ∀ x : S88, x ∈ l → x.f2.size ≤ 9223372036854775807) :
    ∃ r : Int, Ev (fun k => laws_szLog.f k a b l left) r ∧ (r < 0 ∨ (0 ≤ r ∧ r ≤ left ∧ (l.length : Int) ≤ left ∧ ∀ x : S88, x ∈ l → (x.f2.size : Int) ≤ left)) := by
  obtain ⟨r, hr, hrr⟩ := laws_szEntryS_ev l left h0 h1 hl hg
  refine ⟨if r < 0 then -1 else r, ?_, ?_⟩
  · simp only [laws_szLog.f]
    refine Ev.bind hr ?_
    by_cases c : r < 0 <;> simp [c]
  · rcases hrr with h | h
    · rw [if_pos h]; exact Or.inl (by decide)
    · rw [if_neg (by omega)]; exact Or.inr h
theorem laws_toLog_ev (a b : Int) (l : List (S88)) (hl : l.length ≤ 1048576) : Ev (fun k => laws_toLog.f k a b l) (a, b, l.map cvEntry) := by
  simp only [laws_toLog.f]
  exact Ev.bind (laws_toEntryS_ev l hl) (Ev.now _)
theorem laws_eqLog_ev (a b : Int) (l : List (S67)) (hl : l.length ≤ 140737488355328) : Ev (fun k => laws_eqLog.f k a b l a b l) true := by
  simp only [laws_eqLog.f, if_true]
  refine Ev.bind (laws_eqEntryS_ev l hl) ?_
  simp

theorem impl_within_ev (a b c : Int) : Ev (fun _ => impl_within.f a b c) (decide (b ≤ a ∧ a ≤ c)) := by
  apply ev_const
  unfold impl_within.f
  by_cases h : a ≥ b
  · rw [if_pos h]; simp [show b ≤ a from h]
  · rw [if_neg h]; simp [show ¬ b ≤ a from h]

theorem impl_isNode_ev (x : Int) : Ev (fun _ => impl_isNode.f x) (decide (1 ≤ x ∧ x ≤ 4)) := by
  simp only [impl_isNode.f]
  exact Ev.bind (impl_within_ev _ _ _) (Ev.now _)
theorem impl_nodesOk_l0 (l : List Int) (hl : l.length ≤ 35184372088832) : ∀ (d : Nat) (i : Int), 0 ≤ i → i + d = l.length →
    Ev (fun k => impl_nodesOk.l0 k l l (l.length : Int) i) (rise 1 4 (prev l i) (l.drop i.toNat)) := by
  intro d
  induction d with
  | zero =>
    intro i h0 h
    apply ev_succ
    have c : ¬ i < (l.length : Int) := by omega
    simp only [impl_nodesOk.l0, c, if_false]
    apply ev_some
    rw [List.drop_of_length_le (by omega)]; simp [rise]
  | succ d ih =>
    intro i h0 h
    apply ev_succ
    have c : i < (l.length : Int) := by omega
    have e5 : wrap64 (i + 1) = i + 1 := w64 (by omega) (by omega)
    have e6 : wrap64 (i - 1) = i - 1 := w64 (by omega) (by omega)
    simp only [impl_nodesOk.l0, c, h0, if_true, e5, e6]
    refine Ev.bind (impl_isNode_ev _) ?_
    have hh := ih (i + 1) (by omega) (by omega)
    have hp : prev l (i + 1) = some (rd l i) := by rw [prev, if_neg (by omega)]; congr 2; omega
    rw [hp] at hh
    rw [drop_rd l i h0 c]
    by_cases hb : 1 ≤ rd l i ∧ rd l i ≤ 4
    · simp only [hb, and_self, decide_true, if_true]
      by_cases hi : i > 0
      · have k1 : 0 ≤ i - 1 := by omega
        have k2 : i - 1 < (l.length : Int) := by omega
        simp only [hi, k1, k2, if_true]
        rw [prev, if_neg (by omega)]
        by_cases hq : rd l (i - 1) ≥ rd l i
        · simp only [hq, if_true]
          apply ev_some
          simp [rise, show ¬ rd l (i - 1) < rd l i by omega]
        · simp only [hq, if_false]
          simpa [rise, hb, show rd l (i - 1) < rd l i by omega] using hh
      · simp only [hi, if_false]
        rw [prev, if_pos (by omega)]
        simpa [rise, hb] using hh
    · simp only [hb, decide_false, Bool.false_eq_true, if_false]
      apply ev_some
      cases prev l i <;> simp [rise, hb]
theorem impl_nodesOk_ev (l : List Int) (hl : l.length ≤ 35184372088832) : Ev (fun k => impl_nodesOk.f k l) (rise 1 4 none l) := by
  simp only [impl_nodesOk.f]
  have := impl_nodesOk_l0 l hl l.length 0 (by omega) (by omega)
  simpa [prev] using this
theorem impl_ConfOk_ev (l : List Int) (hl : l.length ≤ 35184372088832) : Ev (fun k => impl_ConfOk.f k l) (pConfOk l) := by
  simp only [impl_ConfOk.f]
  by_cases h : (l.length : Int) > 0
  · simp only [h, if_true]
    rw [pConfOk, decide_eq_true (by omega), Bool.true_and]
    exact Ev.bind (impl_nodesOk_ev l hl) (Ev.now _)
  · simp only [h, if_false]
    rw [pConfOk, decide_eq_false (by omega), Bool.false_and]
    exact Ev.now _

theorem impl_ReadConf_ev (s : ByteArray) (hs : s.size ≤ 1048576) : Ev (fun k => impl_ReadConf.f k s) (pReadConf s) := by
  simp only [impl_ReadConf.f]
  have key := loop_up (fun k (x : List Int) i => impl_ReadConf.l0 k s x i) (s.size : Int) (pReadConf s) (fun x i => x = (bytesOf s).take i.toNat)
    (fun x hx => by
      rw [List.take_of_length_le (by rw [bytes_len]; omega)] at hx
      subst hx
      have c : ¬ (s.size : Int) < (s.size : Int) := by omega
      simp only [impl_ReadConf.l0, c, if_false]
      refine Ev.bind (impl_ConfOk_ev _ (by rw [bytes_len]; omega)) ?_
      by_cases h : pConfOk (bytesOf s) = true
      · simp only [h, if_true]
        rw [pReadConf_yes h]
        exact Ev.now _
      · simp only [h, if_false]
        rw [pReadConf_no h]
        exact Ev.now _)
    (fun x i h0 h1 hx ih => by
      have hxl : x.length ≤ s.size := by rw [hx, List.length_take, bytes_len]; omega
      have c3 : x.length < 17592186044416 := by omega
      have br := bt_range s i
      have e1 : wrap64 (bt s i) = bt s i := w64 (by omega) (by omega)
      have e2 : wrap64 (i + 1) = i + 1 := w64 (by omega) (by omega)
      simp only [impl_ReadConf.l0, h1, h0, c3, if_true, e1, e2]
      refine ih _ ?_
      rw [take_snoc_rd _ i h0 (by rw [bytes_len]; exact h1), hx, bt_rd]
      rfl)
  exact key s.size 0 [] (by omega) (by omega) (by simp)

theorem impl_isTerm_ev (x : Int) : Ev (fun _ => impl_isTerm.f x) (decide (0 ≤ x ∧ x ≤ 100000)) := by
  simp only [impl_isTerm.f]
  exact Ev.bind (impl_within_ev _ _ _) (Ev.now _)

theorem impl_EntryOk_ev (t kd : Int) (s : ByteArray) (hs : s.size ≤ 1048576) : Ev (fun k => impl_EntryOk.f k t kd s) (pEntryOk t kd s) := by
  simp only [impl_EntryOk.f]
  by_cases ht : 0 ≤ t ∧ t ≤ 100000
  · have hd : decide (0 ≤ t ∧ t ≤ 100000) = true := decide_eq_true ht
    by_cases c1 : kd = 1
    · simp only [c1, if_true]
      refine Ev.bind (impl_isTerm_ev t) ?_
      simp [pEntryOk, hd]
    · by_cases c2 : kd = 2
      · simp only [c2, if_true, show ¬ (2 : Int) = 1 by decide, if_false]
        refine Ev.bind (impl_ReadConf_ev s hs) ?_
        refine Ev.bind (impl_isTerm_ev t) ?_
        by_cases h : pConfOk (bytesOf s) = true
        · simp [pEntryOk, hd, pReadConf_yes h, h]
        · simp [pEntryOk, hd, pReadConf_no h, h]
      · by_cases c3 : kd = 3
        · simp only [c3, if_true, show ¬ (3 : Int) = 1 by decide, show ¬ (3 : Int) = 2 by decide, if_false]
          refine Ev.bind (impl_isTerm_ev t) ?_
          simp [pEntryOk, hd]
        · simp [pEntryOk, c1, c2, c3]
  · have hd : decide (0 ≤ t ∧ t ≤ 100000) = false := decide_eq_false ht
    have hp : pEntryOk t kd s = false := by rw [pEntryOk, hd, Bool.false_and]
    rw [hp]
    by_cases c1 : kd = 1
    · simp only [c1, if_true]
      refine Ev.bind (impl_isTerm_ev t) ?_
      simp [hd]
    · by_cases c2 : kd = 2
      · simp only [c2, if_true, show ¬ (2 : Int) = 1 by decide, if_false]
        refine Ev.bind (impl_ReadConf_ev s hs) ?_
        refine Ev.bind (impl_isTerm_ev t) ?_
        simp [hd]
      · by_cases c3 : kd = 3
        · simp only [c3, if_true, show ¬ (3 : Int) = 1 by decide, show ¬ (3 : Int) = 2 by decide, if_false]
          refine Ev.bind (impl_isTerm_ev t) ?_
          simp [hd]
        · simp [c1, c2, c3]

def pEnts : Int → List (S67) → Bool
  | _, [] => true
  | t, e :: l => pEntryOk e.f0 e.f1 e.f2 && decide (t ≤ e.f0) && pEnts e.f0 l
def pLogOk (start term : Int) (l : List (S67)) : Bool :=
  decide ((0 ≤ start ∧ start ≤ 1000000) ∧ (0 ≤ term ∧ term ≤ 100000) ∧ l.length ≤ 60 ∧ start + l.length ≤ 1000000) && pEnts term l
theorem drop_ent (l : List (S67)) (i : Int) (h0 : 0 ≤ i) (h1 : i < l.length) : l.drop i.toNat = rd_T67 l i :: l.drop (i + 1).toNat := drop_get l i h0 h1 z67

theorem impl_isIndex_ev (x : Int) : Ev (fun _ => impl_isIndex.f x) (decide (0 ≤ x ∧ x ≤ 1000000)) := by
  simp only [impl_isIndex.f]
  exact Ev.bind (impl_within_ev _ _ _) (Ev.now _)

theorem impl_LogOk_l0 (a b : Int) (l : List (S67)) (hl : l.length ≤ 1048576) (hd : ∀ x ∈ l, x.f2.size ≤ 1048576) : ∀ (d : Nat) (i t : Int), 0 ≤ i → i + d = l.length →
    Ev (fun k => impl_LogOk.l0 k t l (l.length : Int) i a b l) (pEnts t (l.drop i.toNat) && decide ((0 ≤ a ∧ a ≤ 1000000) ∧ (0 ≤ b ∧ b ≤ 100000) ∧ l.length ≤ 60 ∧ a + l.length ≤ 1000000)) := by
  intro d
  induction d with
  | zero =>
    intro i t h0 h
    apply ev_succ
    have c : ¬ i < (l.length : Int) := by omega
    simp only [impl_LogOk.l0, c, if_false]
    rw [List.drop_of_length_le (by omega)]
    simp only [pEnts, Bool.true_and]
    refine Ev.bind (impl_isIndex_ev a) ?_
    by_cases ha : 0 ≤ a ∧ a ≤ 1000000
    · simp only [ha, and_self, decide_true, if_true, true_and]
      refine Ev.bind (impl_isTerm_ev b) ?_
      by_cases hb : 0 ≤ b ∧ b ≤ 100000
      · simp only [hb, and_self, decide_true, if_true, true_and]
        have e : wrap64 (a + l.length) = a + l.length := w64 (by omega) (by omega)
        by_cases hc : (l.length : Int) ≤ 60
        · simp only [hc, if_true, e]
          apply ev_some
          rw [decide_eq_decide]
          omega
        · simp only [hc, if_false]
          apply ev_some
          rw [decide_eq_false (by omega)]
      · simp only [hb, decide_false, Bool.false_eq_true, if_false, false_and]
        exact Ev.now _
    · simp only [ha, decide_false, Bool.false_eq_true, if_false, false_and]
      exact Ev.now _
  | succ d ih =>
    intro i t h0 h
    apply ev_succ
    have c : i < (l.length : Int) := by omega
    have e1 : wrap64 (i + 1) = i + 1 := w64 (by omega) (by omega)
    have hdr := drop_ent l i h0 c
    have hm : rd_T67 l i ∈ l := List.mem_of_mem_drop (i := i.toNat) (by rw [hdr]; exact List.mem_cons_self)
    have hh := ih (i + 1) (rd_T67 l i).f0 (by omega) (by omega)
    simp only [impl_LogOk.l0, c, h0, if_true, e1]
    rw [hdr]
    refine Ev.bind (impl_EntryOk_ev _ _ _ (hd _ hm)) ?_
    by_cases ho : pEntryOk (rd_T67 l i).f0 (rd_T67 l i).f1 (rd_T67 l i).f2 = true
    · by_cases hq : (rd_T67 l i).f0 < t
      · simp only [ho, hq, if_true]
        apply ev_some
        rw [pEnts, decide_eq_false (show ¬ t ≤ (rd_T67 l i).f0 by omega)]
        simp
      · simp only [ho, hq, if_true, if_false]
        rw [pEnts, ho, decide_eq_true (show t ≤ (rd_T67 l i).f0 by omega)]
        simpa using hh
    · simp only [ho, if_false]
      rw [Bool.not_eq_true] at ho
      apply ev_some
      rw [pEnts, ho]
      simp
theorem impl_LogOk_ev (a b : Int) (l : List (S67)) (hl : l.length ≤ 1048576) (hd : ∀ x ∈ l, x.f2.size ≤ 1048576) : Ev (fun k => impl_LogOk.f k a b l) (pLogOk a b l) := by
  simp only [impl_LogOk.f]
  rw [pLogOk, Bool.and_comm]
  simpa using impl_LogOk_l0 a b l hl hd l.length 0 b (by omega) (by omega)

theorem spec_l01In_ev (a b c : Int) : Ev (fun _ => spec_l01In.f a b c) (decide (b ≤ a ∧ a ≤ c)) := by
  apply ev_const
  unfold spec_l01In.f
  by_cases h : a ≥ b
  · rw [if_pos h]; simp [show b ≤ a from h]
  · rw [if_neg h]; simp [show ¬ b ≤ a from h]

theorem spec_l05Rise_l0 (l : List Int) (lo up : Int) (hl : l.length ≤ 35184372088832) : ∀ (d : Nat) (i : Int), 0 ≤ i → i + d = l.length →
    Ev (fun k => spec_l05Rise.l0 k l lo up i) (rise lo up (prev l i) (l.drop i.toNat)) := by
  intro d
  induction d with
  | zero =>
    intro i h0 h
    apply ev_succ
    have c : ¬ i < (l.length : Int) := by omega
    simp only [spec_l05Rise.l0, c, if_false]
    apply ev_some
    rw [List.drop_of_length_le (by omega)]; simp [rise]
  | succ d ih =>
    intro i h0 h
    apply ev_succ
    have c : i < (l.length : Int) := by omega
    have e5 : wrap64 (i + 1) = i + 1 := w64 (by omega) (by omega)
    have e6 : wrap64 (i - 1) = i - 1 := w64 (by omega) (by omega)
    simp only [spec_l05Rise.l0, c, h0, if_true, e5, e6]
    refine Ev.bind (spec_l01In_ev _ _ _) ?_
    have hh := ih (i + 1) (by omega) (by omega)
    have hp : prev l (i + 1) = some (rd l i) := by rw [prev, if_neg (by omega)]; congr 2; omega
    rw [hp] at hh
    rw [drop_rd l i h0 c]
    by_cases hb : lo ≤ rd l i ∧ rd l i ≤ up
    · simp only [hb, and_self, decide_true, if_true]
      by_cases hi : i > 0
      · have k1 : 0 ≤ i - 1 := by omega
        have k2 : i - 1 < (l.length : Int) := by omega
        simp only [hi, k1, k2, if_true]
        rw [prev, if_neg (by omega)]
        by_cases hq : rd l (i - 1) ≥ rd l i
        · simp only [hq, if_true]
          apply ev_some
          simp [rise, show ¬ rd l (i - 1) < rd l i by omega]
        · simp only [hq, if_false]
          simpa [rise, hb, show rd l (i - 1) < rd l i by omega] using hh
      · simp only [hi, if_false]
        rw [prev, if_pos (by omega)]
        simpa [rise, hb] using hh
    · simp only [hb, decide_false, Bool.false_eq_true, if_false]
      apply ev_some
      cases prev l i <;> simp [rise, hb]
theorem spec_l05Rise_ev (l : List Int) (lo up : Int) (hl : l.length ≤ 35184372088832) : Ev (fun k => spec_l05Rise.f k l lo up) (rise lo up none l) := by
  simp only [spec_l05Rise.f]
  have := spec_l05Rise_l0 l lo up hl l.length 0 (by omega) (by omega)
  simpa [prev] using this
theorem spec_ConfOk_ev (l : List Int) (hl : l.length ≤ 35184372088832) : Ev (fun k => spec_ConfOk.f k l) (pConfOk l) := by
  simp only [spec_ConfOk.f]
  refine Ev.bind (spec_l01In_ev _ _ _) ?_
  by_cases h : 1 ≤ (l.length : Int) ∧ (l.length : Int) ≤ 4
  · simp only [h, and_self, decide_true, if_true]
    rw [pConfOk, decide_eq_true (by omega), Bool.true_and]
    exact Ev.bind (spec_l05Rise_ev l 1 4 hl) (Ev.now _)
  · simp only [h, decide_false, Bool.false_eq_true, if_false]
    apply ev_some
    cases hc : pConfOk l with
    | false => rfl
    | true => have := confOk_len l hc; omega

theorem spec_ReadConf_end (s : ByteArray) (hs : s.size ≤ 1048576) (x : List Int) (hx : x = (bytesOf s).take 5) :
    Ev (fun k => if (x.length : Int) = (s.size : Int) then ((spec_ConfOk.f k x).bind fun t => (if t = true then (some (x, true)) else (some ((([] : List Int)), false)))) else (some ((([] : List Int)), false))) (pReadConf s) := by
  have hxl : x.length = min 5 s.size := by rw [hx, List.length_take, bytes_len]
  by_cases h5 : s.size ≤ 5
  · rw [List.take_of_length_le (by rw [bytes_len]; omega)] at hx
    have c : (x.length : Int) = (s.size : Int) := by omega
    simp only [c, if_true]
    subst hx
    refine Ev.bind (spec_ConfOk_ev _ (by rw [bytes_len]; omega)) ?_
    by_cases h : pConfOk (bytesOf s) = true
    · simp only [h, if_true]
      rw [pReadConf_yes h]
      exact Ev.now _
    · simp only [h, if_false]
      rw [pReadConf_no h]
      exact Ev.now _
  · have c : ¬ (x.length : Int) = (s.size : Int) := by omega
    simp only [c, if_false]
    have hn : ¬ pConfOk (bytesOf s) = true := by
      intro h
      have := confOk_len _ h
      rw [bytes_len] at this
      omega
    rw [pReadConf_no hn]
    exact Ev.now _
theorem spec_ReadConf_ev (s : ByteArray) (hs : s.size ≤ 1048576) : Ev (fun k => spec_ReadConf.f k s) (pReadConf s) := by
  simp only [spec_ReadConf.f]
  have key := loop_up (fun k (x : List Int) i => spec_ReadConf.l0 k s x i) ((min 5 s.size : Nat) : Int) (pReadConf s) (fun x i => x = (bytesOf s).take i.toNat)
    (fun x hx => by
      have hx' : x = (bytesOf s).take 5 := by
        rw [hx, Int.toNat_natCast]
        by_cases h5 : s.size ≤ 5
        · rw [List.take_of_length_le (by rw [bytes_len]; omega), List.take_of_length_le (by rw [bytes_len]; omega)]
        · rw [show min 5 s.size = 5 by omega]
      have he := spec_ReadConf_end s hs x hx'
      by_cases c : ((min 5 s.size : Nat) : Int) < (s.size : Int)
      · have c2 : ¬ ((min 5 s.size : Nat) : Int) ≤ 4 := by omega
        simp only [spec_ReadConf.l0, c, c2, if_true, if_false]
        exact he
      · simp only [spec_ReadConf.l0, c, if_false]
        exact he)
    (fun x i h0 h1 hx ih => by
      have hxl : x.length ≤ s.size := by rw [hx, List.length_take, bytes_len]; omega
      have c1 : i < (s.size : Int) := by omega
      have c2 : i ≤ 4 := by omega
      have c3 : x.length < 17592186044416 := by omega
      have br := bt_range s i
      have e1 : wrap64 (bt s i) = bt s i := w64 (by omega) (by omega)
      have e2 : wrap64 (i + 1) = i + 1 := w64 (by omega) (by omega)
      simp only [spec_ReadConf.l0, c1, c2, h0, c3, if_true, e1, e2]
      refine ih _ ?_
      rw [take_snoc_rd _ i h0 (by rw [bytes_len]; exact c1), hx, bt_rd]
      rfl)
  exact key (min 5 s.size) 0 [] (by omega) (by omega) (by simp)

theorem spec_EntryOk_ev (t kd : Int) (s : ByteArray) (hs : s.size ≤ 1048576) : Ev (fun k => spec_EntryOk.f k t kd s) (pEntryOk t kd s) := by
  simp only [spec_EntryOk.f]
  refine Ev.bind (spec_l01In_ev _ _ _) ?_
  by_cases ht : 0 ≤ t ∧ t ≤ 100000
  · have hd : decide (0 ≤ t ∧ t ≤ 100000) = true := decide_eq_true ht
    simp only [hd, if_true]
    by_cases c1 : kd = 1
    · simp [pEntryOk, hd, c1]
    · by_cases c2 : kd = 2
      · simp only [c2, if_true, show ¬ (2 : Int) = 1 by decide, if_false]
        refine Ev.bind (spec_ReadConf_ev s hs) ?_
        by_cases h : pConfOk (bytesOf s) = true
        · simp [pEntryOk, hd, pReadConf_yes h, h]
        · simp [pEntryOk, hd, pReadConf_no h, h]
      · by_cases c3 : kd = 3
        · simp [pEntryOk, hd, c3]
        · simp [pEntryOk, c1, c2, c3]
  · have hd : decide (0 ≤ t ∧ t ≤ 100000) = false := decide_eq_false ht
    simp [pEntryOk, hd]

theorem spec_LogOk_l0 (a b : Int) (l : List (S67)) (hl : l.length ≤ 1048576) (hd : ∀ x ∈ l, x.f2.size ≤ 1048576) : ∀ (d : Nat) (i t : Int), 0 ≤ i → i + d = l.length →
    Ev (fun k => spec_LogOk.l0 k t i a b l) (pEnts t (l.drop i.toNat)) := by
  intro d
  induction d with
  | zero =>
    intro i t h0 h
    apply ev_succ
    have c : ¬ i < (l.length : Int) := by omega
    simp only [spec_LogOk.l0, c, if_false]
    rw [List.drop_of_length_le (by omega)]
    exact Ev.now _
  | succ d ih =>
    intro i t h0 h
    apply ev_succ
    have c : i < (l.length : Int) := by omega
    have e1 : wrap64 (i + 1) = i + 1 := w64 (by omega) (by omega)
    have hdr := drop_ent l i h0 c
    have hm : rd_T67 l i ∈ l := List.mem_of_mem_drop (i := i.toNat) (by rw [hdr]; exact List.mem_cons_self)
    have hh := ih (i + 1) (rd_T67 l i).f0 (by omega) (by omega)
    simp only [spec_LogOk.l0, c, h0, if_true, e1]
    rw [hdr]
    refine Ev.bind (spec_EntryOk_ev _ _ _ (hd _ hm)) ?_
    by_cases ho : pEntryOk (rd_T67 l i).f0 (rd_T67 l i).f1 (rd_T67 l i).f2 = true
    · by_cases hq : (rd_T67 l i).f0 < t
      · simp only [ho, hq, if_true]
        apply ev_some
        rw [pEnts, decide_eq_false (show ¬ t ≤ (rd_T67 l i).f0 by omega)]
        simp
      · simp only [ho, hq, if_true, if_false]
        rw [pEnts, ho, decide_eq_true (show t ≤ (rd_T67 l i).f0 by omega)]
        simpa using hh
    · simp only [ho, if_false]
      rw [Bool.not_eq_true] at ho
      apply ev_some
      rw [pEnts, ho]
      simp
theorem spec_LogOk_ev (a b : Int) (l : List (S67)) (hl : l.length ≤ 1048576) (hd : ∀ x ∈ l, x.f2.size ≤ 1048576) : Ev (fun k => spec_LogOk.f k a b l) (pLogOk a b l) := by
  simp only [spec_LogOk.f]
  have hno : ¬ ((0 ≤ a ∧ a ≤ 1000000) ∧ (0 ≤ b ∧ b ≤ 100000) ∧ l.length ≤ 60 ∧ a + l.length ≤ 1000000) → Ev (fun k => spec_LogOk.j0 k true a b l) (pLogOk a b l) := by
    intro hn
    apply ev_succ
    simp only [spec_LogOk.j0, if_true]
    apply ev_some
    rw [pLogOk, decide_eq_false hn, Bool.false_and]
  refine Ev.bind (spec_l01In_ev _ _ _) ?_
  by_cases ha : 0 ≤ a ∧ a ≤ 1000000
  · simp only [ha, and_self, decide_true, if_true]
    refine Ev.bind (spec_l01In_ev _ _ _) ?_
    by_cases hb : 0 ≤ b ∧ b ≤ 100000
    · simp only [hb, and_self, decide_true, if_true]
      have e : wrap64 (a + l.length) = a + l.length := w64 (by omega) (by omega)
      by_cases hc : (l.length : Int) > 60
      · simp only [hc, if_true]
        exact hno (fun h => by have := h.2.2.1; omega)
      · simp only [hc, if_false, e]
        by_cases hs : a + (l.length : Int) > 1000000
        · simp only [hs, decide_true]
          exact hno (fun h => by have := h.2.2.2; omega)
        · simp only [hs, decide_false]
          apply ev_succ
          simp only [spec_LogOk.j0, Bool.false_eq_true, if_false]
          rw [pLogOk, decide_eq_true ⟨ha, hb, by omega, by omega⟩, Bool.true_and]
          simpa using spec_LogOk_l0 a b l hl hd l.length 0 b (by omega) (by omega)
    · simp only [hb, decide_false, Bool.false_eq_true, if_false]
      exact hno (fun h => hb h.2.1)
  · simp only [ha, decide_false, Bool.false_eq_true, if_false]
    exact hno (fun h => ha h.1)

theorem laws_markText_l0 (n : Nat) : ∀ s : ByteArray, s.size + n ≤ 140737488355328 → Ev (fun k => laws_markText.l0 k (n : Int) s) (decF n s) := by
  induction n using Nat.strongRecOn with
  | ind n ih =>
    intro s hs
    apply ev_succ
    by_cases hn : n = 0
    · subst hn
      have c : ¬ ((0 : Nat) : Int) > 0 := by omega
      have c2 : 1 + s.size ≤ 9223372036854775807 := by omega
      simp only [laws_markText.l0, c, c2, if_true, if_false]
      rw [decF_zero]
      exact Ev.now _
    · have c : (n : Int) > 0 := by omega
      have e1 : wrap64 (48 + Int.tmod (n : Int) 10) % 256 = ((48 + n % 10 : Nat) : Int) := by
        rw [Int.tmod_eq_emod_of_nonneg (by omega), w64 (by omega) (by omega)]; omega
      have e2 : wrap64 (Int.tdiv (n : Int) 10) = ((n / 10 : Nat) : Int) := by
        rw [Int.tdiv_eq_ediv_of_nonneg (by omega), w64 (by omega) (by omega)]; omega
      have c2 : (strOfNums [((48 + n % 10 : Nat) : Int)]).size + s.size ≤ 9223372036854775807 := by rw [str_len]; simp; omega
      simp only [laws_markText.l0, c, if_true, e1, e2, Option.bind_some, c2]
      rw [decF_more hn]
      refine ih (n / 10) (by omega) _ ?_
      rw [size_app, str_len]; simp; omega
theorem laws_markText_ev (k : Int) (h : k ≤ 140737488355328) : Ev (fun n => laws_markText.f n k) (markT k) := by
  simp only [laws_markText.f]
  by_cases c : k ≤ 0
  · simp only [c, if_true]
    rw [markT, if_pos c]
    exact Ev.now _
  · simp only [c, if_false]
    rw [markT, if_neg c]
    obtain ⟨n, rfl⟩ := Int.eq_ofNat_of_zero_le (show 0 ≤ k by omega)
    have := laws_markText_l0 n ⟨#[]⟩ (by simp [ByteArray.size]; omega)
    simpa using this

def mkEntry (a : Int) : Nat → List (S67)
  | 0 => []
  | n + 1 => ⟨a, a + 1, markT (a + 1 + 1)⟩ :: mkEntry (a + 1 + 1 + 1) n
theorem mkEntry_len (a : Int) (n : Nat) : (mkEntry a n).length = n := by
  induction n generalizing a with
  | zero => rfl
  | succ n ih => simp [mkEntry, ih]
theorem mkEntry_get (a : Int) (n i : Nat) (h : i < n) : (mkEntry a n)[i]? = some ⟨(a + 3 * (i : Int)), (a + 3 * (i : Int)) + 1, markT ((a + 3 * (i : Int)) + 1 + 1)⟩ := by
  induction n generalizing a i with
  | zero => omega
  | succ n ih =>
    cases i with
    | zero => simp [mkEntry]
    | succ i =>
      simp only [mkEntry, List.getElem?_cons_succ]
      rw [ih _ _ (by omega)]
      rw [show (a + 1 + 1 + 1) + 3 * (i : Int) = a + 3 * ((i + 1 : Nat) : Int) by omega]
theorem laws_markEntryS_ev (l : List (S67)) (a : Int) (ha : 0 ≤ a) (hb : a ≤ 70368744177664) (hl : l.length ≤ 1099511627776) : Ev (fun k => laws_markEntryS.f k l a) (a + 3 * l.length, mkEntry a l.length) := by
  simp only [laws_markEntryS.f]
  have key := loop_up (fun k (s : List (S67) × Int) i => laws_markEntryS.l0 k s.1 s.2 i) (l.length : Int) (a + 3 * l.length, mkEntry a l.length)
    (fun s i => s.1.length = l.length ∧ s.2 = a + 3 * i ∧ s.1.take i.toNat = (mkEntry a l.length).take i.toNat)
    (fun s hs => by
      obtain ⟨b, x⟩ := s
      obtain ⟨hb, rfl, ht⟩ := hs
      simp only at hb ht ⊢
      have c : ¬ (l.length : Int) < (b.length : Int) := by omega
      simp only [laws_markEntryS.l0, c, if_false]
      apply ev_some
      rw [List.take_of_length_le (by omega), List.take_of_length_le (by rw [mkEntry_len]; omega)] at ht
      rw [ht])
    (fun s i h0 h1 hs ih => by
      obtain ⟨b, x⟩ := s
      obtain ⟨hb, rfl, ht⟩ := hs
      simp only at hb ht ⊢
      have h1' : i < (b.length : Int) := by omega
      have hr : ∀ v, rd_T67 (b.set i.toNat v) i = v := fun v => get_set b i v h0 h1' z67
      have hfin := ih (b.set i.toNat ⟨(a + 3 * i), (a + 3 * i) + 1, markT ((a + 3 * i) + 1 + 1)⟩, (a + 3 * i) + 1 + 1 + 1) ⟨by simp [hb], by simp only; omega, by
        simp only
        rw [show (i + 1).toNat = i.toNat + 1 by omega]
        refine take_set (mkEntry a l.length) b i.toNat _ (by rw [mkEntry_len]; exact hb) (by rw [mkEntry_len]; omega) ht ?_
        rw [mkEntry_get _ _ _ (by omega), show ((i.toNat : Nat) : Int) = i by omega]⟩
      have e1 : wrap64 ((a + 3 * i) + 1) = (a + 3 * i) + 1 := w64 (by omega) (by omega)
      have e2 : wrap64 ((a + 3 * i) + 1 + 1) = (a + 3 * i) + 1 + 1 := w64 (by omega) (by omega)
      have e3 : wrap64 ((a + 3 * i) + 1 + 1 + 1) = (a + 3 * i) + 1 + 1 + 1 := w64 (by omega) (by omega)
      have ei : wrap64 (i + 1) = i + 1 := w64 (by omega) (by omega)
      simp only [laws_markEntryS.l0, h1', h0, if_true, e1, e2, e3, ei, Option.bind_some, hr, List.set_set]
      refine Ev.bind (laws_markText_ev _ (by omega)) ?_
      try simp only [h1', h0, if_true, Option.bind_some, hr, List.set_set]
      exact hfin)
  exact key l.length 0 (l, a) (by omega) (by omega) ⟨rfl, by simp, by simp⟩
theorem laws_heldEntryS_ev (a : Int) (n : Nat) (ha : 0 ≤ a) (hb : a ≤ 70368744177664) (hn : n ≤ 1099511627776) : Ev (fun k => laws_heldEntryS.f k (mkEntry a n) a) (a + 3 * n) := by
  simp only [laws_heldEntryS.f]
  have key := loop_up (fun k (s : Int) i => laws_heldEntryS.l0 k (mkEntry a n) s i) (n : Int) (a + 3 * n) (fun s i => s = a + 3 * i)
    (fun s hs => by
      subst hs
      have c : ¬ (n : Int) < ((mkEntry a n).length : Int) := by rw [mkEntry_len]; omega
      simp only [laws_heldEntryS.l0, c, if_false]
      exact Ev.now _)
    (fun s i h0 h1 hs ih => by
      subst hs
      have hfin := ih ((a + 3 * i) + 1 + 1 + 1) (by omega)
      have c : i < ((mkEntry a n).length : Int) := by rw [mkEntry_len]; omega
      have he : rd_T67 (mkEntry a n) i = ⟨(a + 3 * i), (a + 3 * i) + 1, markT ((a + 3 * i) + 1 + 1)⟩ := by
        have hg := mkEntry_get a n i.toNat (by omega)
        rw [show ((i.toNat : Nat) : Int) = i by omega] at hg
        unfold rd_T67
        rw [List.getD_eq_getElem?_getD, hg]
        rfl
      have e1 : wrap64 ((a + 3 * i) + 1) = (a + 3 * i) + 1 := w64 (by omega) (by omega)
      have e2 : wrap64 ((a + 3 * i) + 1 + 1) = (a + 3 * i) + 1 + 1 := w64 (by omega) (by omega)
      have e3 : wrap64 ((a + 3 * i) + 1 + 1 + 1) = (a + 3 * i) + 1 + 1 + 1 := w64 (by omega) (by omega)
      have ei : wrap64 (i + 1) = i + 1 := w64 (by omega) (by omega)
      simp only [laws_heldEntryS.l0, c, h0, if_true, e1, e2, e3, ei, he]
      refine Ev.bind (laws_markText_ev _ (by omega)) ?_
      simp only [if_true]
      exact hfin)
  exact key n 0 a (by omega) (by omega) (by omega)

theorem laws_markLog_ev (a b : Int) (l : List (S67)) (k0 : Int) (ha : 0 ≤ k0) (hb : k0 ≤ 70368744177664) (hl : l.length ≤ 1099511627776) : Ev (fun k => laws_markLog.f k a b l k0) (k0 + 3 * l.length, mkEntry k0 l.length) := by
  simp only [laws_markLog.f]
  exact Ev.bind (laws_markEntryS_ev l k0 ha hb hl) (Ev.now _)
theorem laws_heldLog_ev (a b : Int) (k0 : Int) (n : Nat) (ha : 0 ≤ k0) (hb : k0 ≤ 70368744177664) (hn : n ≤ 1099511627776) : Ev (fun k => laws_heldLog.f k a b (mkEntry k0 n) k0) (k0 + 3 * n) := by
  simp only [laws_heldLog.f]
  refine Ev.bind (laws_heldEntryS_ev k0 n ha hb hn) ?_
  have c : ¬ k0 + 3 * (n : Int) < 0 := by omega
  simp only [c, if_false]
  exact Ev.now _

def pTerm (a b : Int) (l : List (S67)) (i : Int) : Int := if i = a then b else if a < i ∧ i - a ≤ l.length then (rd_T67 l (i - a - 1)).f0 else -1
def eqE (x y : S67) : Bool := x.f0 == y.f0 && (x.f1 == y.f1 && (x.f2.toList == y.f2.toList))
def shC (a : Int) (l : List (S67)) (c : Int) (m : List (S67)) (x : Int) : Prop :=
  x < a + l.length ∧ x < c + m.length ∧ eqE (rd_T67 l (x - a)) (rd_T67 m (x - c)) = true
instance (a : Int) (l : List (S67)) (c : Int) (m : List (S67)) (x : Int) : Decidable (shC a l c m x) := by unfold shC; infer_instance
def pShL (a : Int) (l : List (S67)) (c : Int) (m : List (S67)) : Nat → Int → Int
  | 0, x => x
  | f + 1, x => if shC a l c m x then pShL a l c m f (x + 1) else x
theorem pShL_yes {a c x : Int} {l m : List (S67)} {f : Nat} (h : shC a l c m x) : pShL a l c m (f + 1) x = pShL a l c m f (x + 1) := by rw [pShL, if_pos h]
theorem pShL_no {a c x : Int} {l m : List (S67)} {f : Nat} (h : ¬ shC a l c m x) : pShL a l c m (f + 1) x = x := by rw [pShL, if_neg h]
def shOk (a b : Int) (l : List (S67)) (c d : Int) (m : List (S67)) : Prop :=
  (pLogOk a b l = true ∧ pLogOk c d m = true) ∧ ¬ pTerm a b l (if c > a then c else a) < 0 ∧ pTerm a b l (if c > a then c else a) = pTerm c d m (if c > a then c else a)
instance (a b : Int) (l : List (S67)) (c d : Int) (m : List (S67)) : Decidable (shOk a b l c d m) := by unfold shOk; infer_instance
def pShared (a b : Int) (l : List (S67)) (c d : Int) (m : List (S67)) : Int := if shOk a b l c d m then pShL a l c m (l.length + 1) (if c > a then c else a) else -1
theorem pShared_yes {a b c d : Int} {l m : List (S67)} (h : shOk a b l c d m) : pShared a b l c d m = pShL a l c m (l.length + 1) (if c > a then c else a) := by rw [pShared, if_pos h]
theorem pShared_no {a b c d : Int} {l m : List (S67)} (h : ¬ shOk a b l c d m) : pShared a b l c d m = -1 := by rw [pShared, if_neg h]
theorem pEnts_terms : ∀ (l : List (S67)) (t : Int), pEnts t l = true → ∀ x ∈ l, 0 ≤ x.f0 ∧ pEntryOk x.f0 x.f1 x.f2 = true := by
  intro l
  induction l with
  | nil => intro t _ x hx; simp at hx
  | cons e l ih =>
    intro t h x hx
    simp only [pEnts, Bool.and_eq_true, decide_eq_true_eq] at h
    rcases List.mem_cons.1 hx with rfl | hx
    · have h1 := h.1.1
      simp only [pEntryOk, Bool.and_eq_true, decide_eq_true_eq] at h1
      exact ⟨h1.1.1, h.1.1⟩
    · exact ih _ h.2 x hx
theorem pLogOk_facts {a b : Int} {l : List (S67)} (h : pLogOk a b l = true) : (0 ≤ a ∧ a ≤ 1000000) ∧ (0 ≤ b ∧ b ≤ 100000) ∧ l.length ≤ 60 ∧ a + l.length ≤ 1000000 ∧ ∀ x ∈ l, 0 ≤ x.f0 ∧ pEntryOk x.f0 x.f1 x.f2 = true := by
  simp only [pLogOk, Bool.and_eq_true, decide_eq_true_eq] at h
  exact ⟨h.1.1, h.1.2.1, h.1.2.2.1, h.1.2.2.2, pEnts_terms l b h.2⟩
theorem rd_mem_ent (l : List (S67)) (i : Int) (h0 : 0 ≤ i) (h1 : i < l.length) : rd_T67 l i ∈ l :=
  List.mem_of_mem_drop (i := i.toNat) (by rw [drop_ent l i h0 h1]; exact List.mem_cons_self)

def pLogPut (a b : Int) (l : List (S67)) (i : Int) (e : S67) : Int × Int × List (S67) × Bool :=
  if pLogOk a b l = true ∧ a + 1 ≤ i ∧ i ≤ a + l.length + 1 then
    (if pLogOk a b (l.take (i - a - 1).toNat ++ [e]) = true then (a, b, l.take (i - a - 1).toNat ++ [e], true) else (0, 0, [], false))
  else (0, 0, [], false)
theorem pLogPut_no {a b : Int} {l : List (S67)} {i : Int} {e : S67} (h : ¬ (pLogOk a b l = true ∧ a + 1 ≤ i ∧ i ≤ a + l.length + 1)) : pLogPut a b l i e = (0, 0, [], false) := by rw [pLogPut, if_neg h]
theorem pLogPut_yes {a b : Int} {l : List (S67)} {i : Int} {e : S67} (h : pLogOk a b l = true ∧ a + 1 ≤ i ∧ i ≤ a + l.length + 1) :
    pLogPut a b l i e = if pLogOk a b (l.take (i - a - 1).toNat ++ [e]) = true then (a, b, l.take (i - a - 1).toNat ++ [e], true) else (0, 0, [], false) := by rw [pLogPut, if_pos h]
theorem pLogPut_len (a b : Int) (l : List (S67)) (i : Int) (e : S67) : (pLogPut a b l i e).2.2.1.length ≤ l.length + 1 := by
  unfold pLogPut
  split
  · split
    · simp only [List.length_append, List.length_take, List.length_cons, List.length_nil]; omega
    · simp
  · simp
theorem put_d {l : List (S67)} {e : S67} (hd : ∀ x ∈ l, x.f2.size ≤ 1048576) (he : e.f2.size ≤ 1048576) (n : Nat) : ∀ x ∈ l.take n ++ [e], x.f2.size ≤ 1048576 := by
  intro x hx
  rcases List.mem_append.1 hx with h | h
  · exact hd x (List.mem_of_mem_take h)
  · rw [List.mem_singleton] at h; rw [h]; exact he
theorem spec_LogPut_ev (a b : Int) (l : List (S67)) (i : Int) (e : S67) (hl : l.length ≤ 1048576) (hd : ∀ x ∈ l, x.f2.size ≤ 1048576) (he : e.f2.size ≤ 1048576) : Ev (fun k => spec_LogPut.f k a b l i e.f0 e.f1 e.f2) (pLogPut a b l i e) := by
  obtain ⟨x, y, z⟩ := e
  simp only [spec_LogPut.f]
  refine Ev.bind (spec_LogOk_ev a b l hl hd) ?_
  have hno : ¬ (pLogOk a b l = true ∧ a + 1 ≤ i ∧ i ≤ a + l.length + 1) → Ev (fun k => spec_LogPut.j0 k i true a b l x y z) (pLogPut a b l i ⟨x, y, z⟩) := by
    intro hn
    apply ev_succ
    simp only [spec_LogPut.j0, if_true]
    rw [pLogPut_no hn]
    exact Ev.now _
  by_cases ho : pLogOk a b l = true
  · obtain ⟨f1, f2, f3, f4, _⟩ := pLogOk_facts ho
    have hl2 : (l.take (i - a - 1).toNat ++ [(⟨x, y, z⟩ : S67)]).length ≤ 1048576 := by simp only [List.length_append, List.length_take, List.length_cons, List.length_nil]; omega
    have hd2 : ∀ u ∈ l.take (i - a - 1).toNat ++ [(⟨x, y, z⟩ : S67)], u.f2.size ≤ 1048576 := put_d hd he _
    have c3 : ([] : List (S67)).length + (l.take (i - a - 1).toNat).length < 4398046511104 := by rw [List.length_take, List.length_nil]; omega
    have c4 : (([] : List (S67)) ++ l.take (i - a - 1).toNat).length + ([⟨x, y, z⟩] : List (S67)).length < 4398046511104 := by rw [List.nil_append, List.length_take]; simp; omega
    have e1 : wrap64 (a + (l.length : Int)) = a + l.length := w64 (by omega) (by omega)
    have e2 : wrap64 (a + 1) = a + 1 := w64 (by omega) (by omega)
    have e3 : wrap64 (a + (l.length : Int) + 1) = a + l.length + 1 := w64 (by omega) (by omega)
    simp only [ho, if_true, spec_l06Last.f, Option.bind_some, e1, e2, e3]
    refine Ev.bind (spec_l01In_ev _ _ _) ?_
    by_cases hi : a + 1 ≤ i ∧ i ≤ a + l.length + 1
    · rw [pLogPut_yes ⟨ho, hi⟩]
      have e4 : wrap64 (i - a) = i - a := w64 (by omega) (by omega)
      have e5 : wrap64 (i - a - 1) = i - a - 1 := w64 (by omega) (by omega)
      have c1 : 0 ≤ i - a - 1 := by omega
      have c2 : i - a - 1 ≤ (l.length : Int) := by omega
      simp only [hi, and_self, decide_true, Bool.not_true]
      apply ev_succ
      simp only [spec_LogPut.j0, Bool.false_eq_true, if_false, Option.bind_some, e4, e5, c1, c2, c3, c4, if_true]
      simp only [List.nil_append]
      clear c3 c4
      generalize l.take (i - a - 1).toNat ++ [(⟨x, y, z⟩ : S67)] = u at hl2 hd2 ⊢
      refine Ev.bind (spec_LogOk_ev a b u hl2 hd2) ?_
      by_cases hq : pLogOk a b u = true
      · simp only [hq, if_true]; exact Ev.now _
      · simp only [hq, if_false]; exact Ev.now _
    · simp only [hi, decide_false, Bool.not_false]
      exact hno (fun h => hi h.2)
  · simp only [ho, if_false]
    exact hno (fun h => ho h.1)
theorem impl_LogPut_ev (a b : Int) (l : List (S67)) (i : Int) (e : S67) (hl : l.length ≤ 1048576) (hd : ∀ x ∈ l, x.f2.size ≤ 1048576) (he : e.f2.size ≤ 1048576) : Ev (fun k => impl_LogPut.f k a b l i e.f0 e.f1 e.f2) (pLogPut a b l i e) := by
  obtain ⟨x, y, z⟩ := e
  simp only [impl_LogPut.f]
  have hlast : ∃ t : Int, impl_LogLast.f a b l = some ((if l.length = 0 then a else wrap64 (a + l.length)), t) := by
    unfold impl_LogLast.f
    by_cases c : l.length = 0
    · exact ⟨b, by simp [c]⟩
    · have e1 : wrap64 ((l.length : Int) - 1) = (l.length : Int) - 1 := w64 (by omega) (by omega)
      refine ⟨(rd_T67 l ((l.length : Int) - 1)).f0, ?_⟩
      rw [if_neg (by omega), e1, if_pos (by omega), if_pos (by omega), if_neg c]
  obtain ⟨t, hlast⟩ := hlast
  refine Ev.bind (ev_const hlast) ?_
  refine Ev.bind (impl_LogOk_ev a b l hl hd) ?_
  have hno : ¬ (pLogOk a b l = true ∧ a + 1 ≤ i ∧ i ≤ a + l.length + 1) → Ev (fun k => impl_LogPut.j0 k i true a b l x y z) (pLogPut a b l i ⟨x, y, z⟩) := by
    intro hn
    apply ev_succ
    simp only [impl_LogPut.j0, if_true]
    rw [pLogPut_no hn]
    exact Ev.now _
  by_cases ho : pLogOk a b l = true
  · obtain ⟨f1, f2, f3, f4, _⟩ := pLogOk_facts ho
    have hl2 : (l.take (i - a - 1).toNat ++ [(⟨x, y, z⟩ : S67)]).length ≤ 1048576 := by simp only [List.length_append, List.length_take, List.length_cons, List.length_nil]; omega
    have hd2 : ∀ u ∈ l.take (i - a - 1).toNat ++ [(⟨x, y, z⟩ : S67)], u.f2.size ≤ 1048576 := put_d hd he _
    have e0 : (if l.length = 0 then a else wrap64 (a + l.length)) = a + (l.length : Int) := by
      by_cases c : l.length = 0
      · rw [if_pos c]; omega
      · rw [if_neg c]; exact w64 (by omega) (by omega)
    have e2 : wrap64 (a + 1) = a + 1 := w64 (by omega) (by omega)
    have e3 : wrap64 (a + (l.length : Int) + 1) = a + l.length + 1 := w64 (by omega) (by omega)
    simp only [ho, if_true, e0, e2, e3]
    refine Ev.bind (impl_within_ev _ _ _) ?_
    by_cases hi : a + 1 ≤ i ∧ i ≤ a + l.length + 1
    · rw [pLogPut_yes ⟨ho, hi⟩]
      have e4 : wrap64 (i - a) = i - a := w64 (by omega) (by omega)
      have e5 : wrap64 (i - a - 1) = i - a - 1 := w64 (by omega) (by omega)
      have c1 : 0 ≤ i - a - 1 := by omega
      have c2 : i - a - 1 ≤ (l.length : Int) := by omega
      have c3 : ([] : List (S67)).length + l.length < 4398046511104 := by rw [List.length_nil]; omega
      have c4 : (l.take (i - a - 1).toNat).length < 4398046511104 := by rw [List.length_take]; omega
      simp only [hi, and_self, decide_true, Bool.not_true]
      apply ev_succ
      simp only [impl_LogPut.j0, impl_copyLog.f, Bool.false_eq_true, if_false, Option.bind_some, c3, if_true, List.nil_append, e4, e5, c1, c2, c4]
      refine Ev.bind (impl_LogOk_ev a b (l.take (i - a - 1).toNat ++ [⟨x, y, z⟩]) hl2 hd2) ?_
      by_cases hq : pLogOk a b (l.take (i - a - 1).toNat ++ [⟨x, y, z⟩]) = true
      · simp only [hq, if_true]; exact Ev.now _
      · simp only [hq, if_false]; exact Ev.now _
    · simp only [hi, decide_false, Bool.not_false]
      exact hno (fun h => hi h.2)
  · simp only [ho, if_false]
    exact hno (fun h => ho h.1)
theorem FnExactLogPut : OpenFnExactLogPut.Stmt := by
  intro a b l i x y z ha hb hl hi hx hy hz
  apply ev_rounds
  simp only [laws_FnExactLogPut.f]
  obtain ⟨r, hr, hrr⟩ := laws_szLog_ev a b l 1048576 (by decide) (by decide) hl.1 (fun x hx => (hl.2 x hx).2.2)
  refine Ev.bind hr ?_
  rcases hrr with hn | ⟨hn, hle, hll, hg⟩
  · simp only [hn, if_true]
    exact Ev.now _
  · have hn' : ¬ r < 0 := by omega
    simp only [hn', if_false]
    have e1 : wrap64 (r - (z.size : Int)) = r - z.size := w64 (by omega) (by omega)
    by_cases c : r - (z.size : Int) < 0
    · simp only [laws_szEntry.f, e1, c, if_true, Option.bind_some]
      exact Ev.now _
    · simp only [laws_szEntry.f, e1, c, if_false, Option.bind_some]
      have hlen : l.length ≤ 1048576 := by omega
      have hlen' : (l.map cvEntry).length ≤ 1048576 := by simpa using hlen
      have hd : ∀ x ∈ l.map cvEntry, x.f2.size ≤ 1048576 := by
        intro x hx
        obtain ⟨y, hy, rfl⟩ := List.mem_map.1 hx
        have := hg y hy
        show y.f2.size ≤ _
        omega
      have ht := laws_toLog_ev a b l hlen
      have hI := impl_LogPut_ev a b (l.map cvEntry) i (⟨x, y, z⟩ : S67) hlen' hd (by show z.size ≤ _; omega)
      have hS := spec_LogPut_ev a b (l.map cvEntry) i (⟨x, y, z⟩ : S67) hlen' hd (by show z.size ≤ _; omega)
      have hpl := pLogPut_len a b (l.map cvEntry) i (⟨x, y, z⟩ : S67)
      obtain ⟨p, q, u, o, hp⟩ : ∃ p q u o, pLogPut a b (l.map cvEntry) i (⟨x, y, z⟩ : S67) = (p, q, u, o) := ⟨_, _, _, _, rfl⟩
      rw [hp] at hI hS hpl
      simp only at hpl hI hS
      have hq := laws_eqLog_ev p q u (by omega)
      have hq0 := laws_eqLog_ev a b (l.map cvEntry) (by omega)
      have hm0 := laws_markLog_ev a b (l.map cvEntry) 1 (by decide) (by decide) (by omega)
      have hm := laws_markLog_ev p q u 1 (by decide) (by decide) (by omega)
      have hh := laws_heldLog_ev p q 1 u.length (by decide) (by decide) (by omega)
      have h1 : ¬ (1 + 3 * ((l.map cvEntry).length : Int)) < 0 := by omega
      have h2 : ¬ (1 + 3 * (u.length : Int)) < 0 := by omega
      have n1 : ¬ (r - (z.size : Int) < 0) := c
      first | simp only [n1, if_false] | skip
      refine Ev.bind ht ?_
      simp only [laws_toEntry.f, Option.bind_some]
      refine Ev.bind hS ?_
      refine Ev.bind ht ?_
      refine Ev.bind hI ?_
      refine Ev.bind hq ?_
      simp only [if_true, bne_self_eq_false]
      apply ev_succ
      simp only [laws_FnExactLogPut.j0, Bool.false_eq_true, if_false]
      refine Ev.bind ht ?_
      refine Ev.bind hq0 ?_
      simp only [if_true]
      refine Ev.bind hm0 ?_
      simp only [h1, if_false]
      refine Ev.bind hq ?_
      simp only [if_true, bne_self_eq_false]
      apply ev_succ
      simp only [laws_FnExactLogPut.j1, Bool.false_eq_true, if_false]
      refine Ev.bind hm ?_
      refine Ev.bind hh ?_
      simp only [h2, if_false, if_true]
      refine Ev.bind ht ?_
      simp only [laws_toEntry.f, Option.bind_some]
      refine Ev.bind hI ?_
      refine Ev.bind hq ?_
      simp only [if_true, bne_self_eq_false]
      apply ev_succ
      simp only [laws_FnExactLogPut.j2, Bool.false_eq_true, if_false]
      refine Ev.bind hh ?_
      simp only [h2, if_false, if_true]
      exact Ev.now _

end Go.Proofs.Ytaainenplcokaaa.Pure
