/- ReadJournal of the program and of the reference answer the same for every number and text; the journal is new memory. -/
import Derived.Test.YtogifkjkbfdocaaQFnExactReadJournalx18
import Derived.Test.YtogifkjkbfdocaaBaseL
import Derived.Test.YtogifkjkbfdocaaBaseF
import Derived.Test.YtogifkjkbfdocaaBaseR
namespace Go.Proofs.Ytogifkjkbfdocaa.Pure
open Go.RowKit Go.Proofs.Ytogifkjkbfdocaa.QFnExactReadJournal Go.Proofs.YtogifkjkbfdocaaW.PrintWords Go.Proofs.YtogifkjkbfdocaaW.PrintLast Go.Proofs.YtogifkjkbfdocaaW.PrintMore Go.Proofs.Ytogifkjkbfdocaa.Base
set_option linter.unusedVariables false
set_option linter.unusedSimpArgs false

/-- A sign and two numbers, read from a record. -/
def twoP (s : ByteArray) (sign : Int) : Int × Int × Bool :=
  let p1 := curOne s 0 false; let p2 := curVar s p1.2.1 p1.2.2; let p3 := curVar s p2.2.1 p2.2.2
  (p2.1, p3.1, decide (p1.1 = sign) && (!p3.2.2 && (p3.2.1 == (s.size : Int))))
def twoB (sign a b : Int) : ByteArray := (strOfNums [sign] ++ varB a.toNat) ++ varB b.toNat
theorem twoP_sign {s : ByteArray} {sign : Int} (h : (twoP s sign).2.2 = true) : (curOne s 0 false).1 = sign := by
  unfold twoP at h
  simp only [Bool.and_eq_true, decide_eq_true_eq] at h
  exact h.1
/-- A record of a sign and two numbers is no entry's. -/
theorem twoP_no_ent {s : ByteArray} {sign : Int} (h : (twoP s sign).2.2 = true) (hs : sign ≠ 69) : entP s = (0, 0, 0, ⟨#[]⟩, false) := by
  have h1 := twoP_sign h
  unfold entP
  simp only
  split
  · rfl
  · rw [if_neg (fun q => hs (by rw [← h1]; exact q.1))]
/-- The text is the text of the sign and the numbers that are read, just where the sign stands ahead and nothing stands behind. -/
theorem twoB_iff {s : ByteArray} {n1 n2 : Int} {x t sign : Int} (hsg : 0 ≤ sign ∧ sign < 256) (h0 : 0 < (s.size : Int)) (hx : (pReadVar s 1).2.2 = true) (ex : pReadVar s 1 = (x, n1, true)) (ht : (pReadVar s n1).2.2 = true) (et : pReadVar s n1 = (t, n2, true)) :
    twoB sign x t = s ↔ (bt s 0 = sign ∧ n2 = s.size) := by
  have b1 := pReadVar_ok s 1 hx
  have b2 := pReadVar_ok s n1 ht
  have v1 := readVar_text hx
  have v2 := readVar_text ht
  rw [ex] at b1 v1
  rw [et] at b2 v2
  simp only at b1 b2 v1 v2
  have c1 := ext_one s 0 (by omega) h0
  have hr0 := bt_range s 0
  have split : s = ((strOfNums [bt s 0] ++ varB x.toNat) ++ varB t.toNat) ++ s.extract n2.toNat s.size := by
    rw [v1, v2, ← c1, show (0 : Int).toNat = 0 from rfl, show ((0 : Int) + 1).toNat = 1 from rfl, show (1 : Int).toNat = 1 from rfl, ext_ext _ _ _ _ (by omega) (by omega), ext_ext _ _ _ _ (by omega) (by omega), ext_ext _ _ _ _ (by omega) (by omega)]
    apply bytes_inj
    rw [bytes_ext, List.drop_zero, Nat.sub_zero, ← bytes_len s, List.take_length]
  have sz : s.size = 1 + (varB x.toNat).size + (varB t.toNat).size + (s.size - n2.toNat) := by
    have h := congrArg ByteArray.size split
    rw [size_app, size_app, size_app, str_len, size_ext] at h
    simp only [List.length_singleton] at h
    omega
  unfold twoB
  constructor
  · intro h
    have hz := congrArg ByteArray.size h
    rw [size_app, size_app, str_len] at hz
    simp only [List.length_singleton] at hz
    have hn : n2 = s.size := by omega
    refine ⟨?_, hn⟩
    have e0 : s.extract n2.toNat s.size = ⟨#[]⟩ := by
      apply bytes_inj
      rw [bytes_ext, hn, Int.toNat_natCast, Nat.sub_self, List.take_zero]
      rfl
    rw [e0, app_nil] at split
    have h2 := h.trans split
    have h3 := (app_inj h2 (by rw [size_app, size_app, str_len, str_len]; rfl)).1
    have h4 := (app_inj h3 (by rw [str_len, str_len]; rfl)).1
    have h7 := str_inj (a := [sign]) (b := [bt s 0]) (by intro z hz; rw [List.mem_singleton] at hz; subst hz; omega) (by intro z hz; rw [List.mem_singleton] at hz; subst hz; omega) h4
    simp at h7
    exact h7.symm
  · rintro ⟨h, hn⟩
    have e0 : s.extract n2.toNat s.size = ⟨#[]⟩ := by
      apply bytes_inj
      rw [bytes_ext, hn, Int.toNat_natCast, Nat.sub_self, List.take_zero]
      rfl
    rw [e0, app_nil, h] at split
    exact split.symm

theorem impl_within_ev (a b c : Int) : Ev (fun _ => impl_within.f a b c) (decide (b ≤ a ∧ a ≤ c)) := by
  apply ev_const
  unfold impl_within.f
  by_cases h : a ≥ b
  · rw [if_pos h]; simp [show b ≤ a from h]
  · rw [if_neg h]; simp [show ¬ b ≤ a from h]

theorem impl_isNode_ev (x : Int) : Ev (fun _ => impl_isNode.f x) (decide (1 ≤ x ∧ x ≤ 4)) := by
  simp only [impl_isNode.f]
  exact Ev.bind (impl_within_ev _ _ _) (Ev.now _)
theorem impl_nodesOk_l0 (l : List Int) (hl : l.length ≤ 35184372088832) : ∀ (d : Nat) (i : Int), 0 ≤ i → i + d = l.length →
    Ev (fun k => impl_nodesOk.l0 k l l (l.length : Int) i) (rise 1 4 (prev l i) (l.drop i.toNat)) := by
  intro d
  induction d with
  | zero =>
    intro i h0 h
    apply ev_succ
    have c : ¬ i < (l.length : Int) := by omega
    simp only [impl_nodesOk.l0, c, if_false]
    apply ev_some
    rw [List.drop_of_length_le (by omega)]; simp [rise]
  | succ d ih =>
    intro i h0 h
    apply ev_succ
    have c : i < (l.length : Int) := by omega
    have e5 : wrap64 (i + 1) = i + 1 := w64 (by omega) (by omega)
    have e6 : wrap64 (i - 1) = i - 1 := w64 (by omega) (by omega)
    simp only [impl_nodesOk.l0, c, h0, if_true, e5, e6]
    refine Ev.bind (impl_isNode_ev _) ?_
    have hh := ih (i + 1) (by omega) (by omega)
    have hp : prev l (i + 1) = some (rd l i) := by rw [prev, if_neg (by omega)]; congr 2; omega
    rw [hp] at hh
    rw [drop_rd l i h0 c]
    by_cases hb : 1 ≤ rd l i ∧ rd l i ≤ 4
    · simp only [hb, and_self, decide_true, if_true]
      by_cases hi : i > 0
      · have k1 : 0 ≤ i - 1 := by omega
        have k2 : i - 1 < (l.length : Int) := by omega
        simp only [hi, k1, k2, if_true]
        rw [prev, if_neg (by omega)]
        by_cases hq : rd l (i - 1) ≥ rd l i
        · simp only [hq, if_true]
          apply ev_some
          simp [rise, show ¬ rd l (i - 1) < rd l i by omega]
        · simp only [hq, if_false]
          simpa [rise, hb, show rd l (i - 1) < rd l i by omega] using hh
      · simp only [hi, if_false]
        rw [prev, if_pos (by omega)]
        simpa [rise, hb] using hh
    · simp only [hb, decide_false, Bool.false_eq_true, if_false]
      apply ev_some
      cases prev l i <;> simp [rise, hb]
theorem impl_nodesOk_ev (l : List Int) (hl : l.length ≤ 35184372088832) : Ev (fun k => impl_nodesOk.f k l) (rise 1 4 none l) := by
  simp only [impl_nodesOk.f]
  have := impl_nodesOk_l0 l hl l.length 0 (by omega) (by omega)
  simpa [prev] using this
theorem impl_ConfOk_ev (l : List Int) (hl : l.length ≤ 35184372088832) : Ev (fun k => impl_ConfOk.f k l) (pConfOk l) := by
  simp only [impl_ConfOk.f]
  by_cases h : (l.length : Int) > 0
  · simp only [h, if_true]
    rw [pConfOk, decide_eq_true (by omega), Bool.true_and]
    exact Ev.bind (impl_nodesOk_ev l hl) (Ev.now _)
  · simp only [h, if_false]
    rw [pConfOk, decide_eq_false (by omega), Bool.false_and]
    exact Ev.now _

theorem impl_ReadConf_ev (s : ByteArray) (hs : s.size ≤ 1048576) : Ev (fun k => impl_ReadConf.f k s) (pReadConf s) := by
  simp only [impl_ReadConf.f]
  have key := loop_up (fun k (x : List Int) i => impl_ReadConf.l0 k s x i) (s.size : Int) (pReadConf s) (fun x i => x = (bytesOf s).take i.toNat)
    (fun x hx => by
      rw [List.take_of_length_le (by rw [bytes_len]; omega)] at hx
      subst hx
      have c : ¬ (s.size : Int) < (s.size : Int) := by omega
      simp only [impl_ReadConf.l0, c, if_false]
      refine Ev.bind (impl_ConfOk_ev _ (by rw [bytes_len]; omega)) ?_
      by_cases h : pConfOk (bytesOf s) = true
      · simp only [h, if_true]
        rw [pReadConf_yes h]
        exact Ev.now _
      · simp only [h, if_false]
        rw [pReadConf_no h]
        exact Ev.now _)
    (fun x i h0 h1 hx ih => by
      have hxl : x.length ≤ s.size := by rw [hx, List.length_take, bytes_len]; omega
      have c3 : x.length < 17592186044416 := by omega
      have br := bt_range s i
      have e1 : wrap64 (bt s i) = bt s i := w64 (by omega) (by omega)
      have e2 : wrap64 (i + 1) = i + 1 := w64 (by omega) (by omega)
      simp only [impl_ReadConf.l0, h1, h0, c3, if_true, e1, e2]
      refine ih _ ?_
      rw [take_snoc_rd _ i h0 (by rw [bytes_len]; exact h1), hx, bt_rd]
      rfl)
  exact key s.size 0 [] (by omega) (by omega) (by simp)

theorem impl_isTerm_ev (x : Int) : Ev (fun _ => impl_isTerm.f x) (decide (0 ≤ x ∧ x ≤ 100000)) := by
  simp only [impl_isTerm.f]
  exact Ev.bind (impl_within_ev _ _ _) (Ev.now _)

theorem impl_EntryOk_ev (t kd : Int) (s : ByteArray) (hs : s.size ≤ 1048576) : Ev (fun k => impl_EntryOk.f k t kd s) (pEntryOk t kd s) := by
  simp only [impl_EntryOk.f]
  by_cases ht : 0 ≤ t ∧ t ≤ 100000
  · have hd : decide (0 ≤ t ∧ t ≤ 100000) = true := decide_eq_true ht
    by_cases c1 : kd = 1
    · simp only [c1, if_true]
      refine Ev.bind (impl_isTerm_ev t) ?_
      simp [pEntryOk, hd]
    · by_cases c2 : kd = 2
      · simp only [c2, if_true, show ¬ (2 : Int) = 1 by decide, if_false]
        refine Ev.bind (impl_ReadConf_ev s hs) ?_
        refine Ev.bind (impl_isTerm_ev t) ?_
        by_cases h : pConfOk (bytesOf s) = true
        · simp [pEntryOk, hd, pReadConf_yes h, h]
        · simp [pEntryOk, hd, pReadConf_no h, h]
      · by_cases c3 : kd = 3
        · simp only [c3, if_true, show ¬ (3 : Int) = 1 by decide, show ¬ (3 : Int) = 2 by decide, if_false]
          refine Ev.bind (impl_isTerm_ev t) ?_
          simp [pEntryOk, hd]
        · simp [pEntryOk, c1, c2, c3]
  · have hd : decide (0 ≤ t ∧ t ≤ 100000) = false := decide_eq_false ht
    have hp : pEntryOk t kd s = false := by rw [pEntryOk, hd, Bool.false_and]
    rw [hp]
    by_cases c1 : kd = 1
    · simp only [c1, if_true]
      refine Ev.bind (impl_isTerm_ev t) ?_
      simp [hd]
    · by_cases c2 : kd = 2
      · simp only [c2, if_true, show ¬ (2 : Int) = 1 by decide, if_false]
        refine Ev.bind (impl_ReadConf_ev s hs) ?_
        refine Ev.bind (impl_isTerm_ev t) ?_
        simp [hd]
      · by_cases c3 : kd = 3
        · simp only [c3, if_true, show ¬ (3 : Int) = 1 by decide, show ¬ (3 : Int) = 2 by decide, if_false]
          refine Ev.bind (impl_isTerm_ev t) ?_
          simp [hd]
        · simp [c1, c2, c3]

def pEnts : Int → List (S56) → Bool
  | _, [] => true
  | t, e :: l => pEntryOk e.f0 e.f1 e.f2 && decide (t ≤ e.f0) && pEnts e.f0 l
def pLogOk (start term : Int) (l : List (S56)) : Bool :=
  decide ((0 ≤ start ∧ start ≤ 1000000) ∧ (0 ≤ term ∧ term ≤ 100000) ∧ l.length ≤ 60 ∧ start + l.length ≤ 1000000) && pEnts term l
theorem drop_ent (l : List (S56)) (i : Int) (h0 : 0 ≤ i) (h1 : i < l.length) : l.drop i.toNat = rd_T56 l i :: l.drop (i + 1).toNat := drop_get l i h0 h1 z56

theorem impl_isIndex_ev (x : Int) : Ev (fun _ => impl_isIndex.f x) (decide (0 ≤ x ∧ x ≤ 1000000)) := by
  simp only [impl_isIndex.f]
  exact Ev.bind (impl_within_ev _ _ _) (Ev.now _)

theorem impl_LogOk_l0 (a b : Int) (l : List (S56)) (hl : l.length ≤ 1048576) (hd : ∀ x ∈ l, x.f2.size ≤ 1048576) : ∀ (d : Nat) (i t : Int), 0 ≤ i → i + d = l.length →
    Ev (fun k => impl_LogOk.l0 k t l (l.length : Int) i a b l) (pEnts t (l.drop i.toNat) && decide ((0 ≤ a ∧ a ≤ 1000000) ∧ (0 ≤ b ∧ b ≤ 100000) ∧ l.length ≤ 60 ∧ a + l.length ≤ 1000000)) := by
  intro d
  induction d with
  | zero =>
    intro i t h0 h
    apply ev_succ
    have c : ¬ i < (l.length : Int) := by omega
    simp only [impl_LogOk.l0, c, if_false]
    rw [List.drop_of_length_le (by omega)]
    simp only [pEnts, Bool.true_and]
    refine Ev.bind (impl_isIndex_ev a) ?_
    by_cases ha : 0 ≤ a ∧ a ≤ 1000000
    · simp only [ha, and_self, decide_true, if_true, true_and]
      refine Ev.bind (impl_isTerm_ev b) ?_
      by_cases hb : 0 ≤ b ∧ b ≤ 100000
      · simp only [hb, and_self, decide_true, if_true, true_and]
        have e : wrap64 (a + l.length) = a + l.length := w64 (by omega) (by omega)
        by_cases hc : (l.length : Int) ≤ 60
        · simp only [hc, if_true, e]
          apply ev_some
          rw [decide_eq_decide]
          omega
        · simp only [hc, if_false]
          apply ev_some
          rw [decide_eq_false (by omega)]
      · simp only [hb, decide_false, Bool.false_eq_true, if_false, false_and]
        exact Ev.now _
    · simp only [ha, decide_false, Bool.false_eq_true, if_false, false_and]
      exact Ev.now _
  | succ d ih =>
    intro i t h0 h
    apply ev_succ
    have c : i < (l.length : Int) := by omega
    have e1 : wrap64 (i + 1) = i + 1 := w64 (by omega) (by omega)
    have hdr := drop_ent l i h0 c
    have hm : rd_T56 l i ∈ l := List.mem_of_mem_drop (i := i.toNat) (by rw [hdr]; exact List.mem_cons_self)
    have hh := ih (i + 1) (rd_T56 l i).f0 (by omega) (by omega)
    simp only [impl_LogOk.l0, c, h0, if_true, e1]
    rw [hdr]
    refine Ev.bind (impl_EntryOk_ev _ _ _ (hd _ hm)) ?_
    by_cases ho : pEntryOk (rd_T56 l i).f0 (rd_T56 l i).f1 (rd_T56 l i).f2 = true
    · by_cases hq : (rd_T56 l i).f0 < t
      · simp only [ho, hq, if_true]
        apply ev_some
        rw [pEnts, decide_eq_false (show ¬ t ≤ (rd_T56 l i).f0 by omega)]
        simp
      · simp only [ho, hq, if_true, if_false]
        rw [pEnts, ho, decide_eq_true (show t ≤ (rd_T56 l i).f0 by omega)]
        simpa using hh
    · simp only [ho, if_false]
      rw [Bool.not_eq_true] at ho
      apply ev_some
      rw [pEnts, ho]
      simp
theorem impl_LogOk_ev (a b : Int) (l : List (S56)) (hl : l.length ≤ 1048576) (hd : ∀ x ∈ l, x.f2.size ≤ 1048576) : Ev (fun k => impl_LogOk.f k a b l) (pLogOk a b l) := by
  simp only [impl_LogOk.f]
  rw [pLogOk, Bool.and_comm]
  simpa using impl_LogOk_l0 a b l hl hd l.length 0 b (by omega) (by omega)

theorem spec_l01In_ev (a b c : Int) : Ev (fun _ => spec_l01In.f a b c) (decide (b ≤ a ∧ a ≤ c)) := by
  apply ev_const
  unfold spec_l01In.f
  by_cases h : a ≥ b
  · rw [if_pos h]; simp [show b ≤ a from h]
  · rw [if_neg h]; simp [show ¬ b ≤ a from h]

theorem spec_l05Rise_l0 (l : List Int) (lo up : Int) (hl : l.length ≤ 35184372088832) : ∀ (d : Nat) (i : Int), 0 ≤ i → i + d = l.length →
    Ev (fun k => spec_l05Rise.l0 k l lo up i) (rise lo up (prev l i) (l.drop i.toNat)) := by
  intro d
  induction d with
  | zero =>
    intro i h0 h
    apply ev_succ
    have c : ¬ i < (l.length : Int) := by omega
    simp only [spec_l05Rise.l0, c, if_false]
    apply ev_some
    rw [List.drop_of_length_le (by omega)]; simp [rise]
  | succ d ih =>
    intro i h0 h
    apply ev_succ
    have c : i < (l.length : Int) := by omega
    have e5 : wrap64 (i + 1) = i + 1 := w64 (by omega) (by omega)
    have e6 : wrap64 (i - 1) = i - 1 := w64 (by omega) (by omega)
    simp only [spec_l05Rise.l0, c, h0, if_true, e5, e6]
    refine Ev.bind (spec_l01In_ev _ _ _) ?_
    have hh := ih (i + 1) (by omega) (by omega)
    have hp : prev l (i + 1) = some (rd l i) := by rw [prev, if_neg (by omega)]; congr 2; omega
    rw [hp] at hh
    rw [drop_rd l i h0 c]
    by_cases hb : lo ≤ rd l i ∧ rd l i ≤ up
    · simp only [hb, and_self, decide_true, if_true]
      by_cases hi : i > 0
      · have k1 : 0 ≤ i - 1 := by omega
        have k2 : i - 1 < (l.length : Int) := by omega
        simp only [hi, k1, k2, if_true]
        rw [prev, if_neg (by omega)]
        by_cases hq : rd l (i - 1) ≥ rd l i
        · simp only [hq, if_true]
          apply ev_some
          simp [rise, show ¬ rd l (i - 1) < rd l i by omega]
        · simp only [hq, if_false]
          simpa [rise, hb, show rd l (i - 1) < rd l i by omega] using hh
      · simp only [hi, if_false]
        rw [prev, if_pos (by omega)]
        simpa [rise, hb] using hh
    · simp only [hb, decide_false, Bool.false_eq_true, if_false]
      apply ev_some
      cases prev l i <;> simp [rise, hb]
theorem spec_l05Rise_ev (l : List Int) (lo up : Int) (hl : l.length ≤ 35184372088832) : Ev (fun k => spec_l05Rise.f k l lo up) (rise lo up none l) := by
  simp only [spec_l05Rise.f]
  have := spec_l05Rise_l0 l lo up hl l.length 0 (by omega) (by omega)
  simpa [prev] using this
theorem spec_ConfOk_ev (l : List Int) (hl : l.length ≤ 35184372088832) : Ev (fun k => spec_ConfOk.f k l) (pConfOk l) := by
  simp only [spec_ConfOk.f]
  refine Ev.bind (spec_l01In_ev _ _ _) ?_
  by_cases h : 1 ≤ (l.length : Int) ∧ (l.length : Int) ≤ 4
  · simp only [h, and_self, decide_true, if_true]
    rw [pConfOk, decide_eq_true (by omega), Bool.true_and]
    exact Ev.bind (spec_l05Rise_ev l 1 4 hl) (Ev.now _)
  · simp only [h, decide_false, Bool.false_eq_true, if_false]
    apply ev_some
    cases hc : pConfOk l with
    | false => rfl
    | true => have := confOk_len l hc; omega

theorem spec_ReadConf_end (s : ByteArray) (hs : s.size ≤ 1048576) (x : List Int) (hx : x = (bytesOf s).take 5) :
    Ev (fun k => if (x.length : Int) = (s.size : Int) then ((spec_ConfOk.f k x).bind fun t => (if t = true then (some (x, true)) else (some ((([] : List Int)), false)))) else (some ((([] : List Int)), false))) (pReadConf s) := by
  have hxl : x.length = min 5 s.size := by rw [hx, List.length_take, bytes_len]
  by_cases h5 : s.size ≤ 5
  · rw [List.take_of_length_le (by rw [bytes_len]; omega)] at hx
    have c : (x.length : Int) = (s.size : Int) := by omega
    simp only [c, if_true]
    subst hx
    refine Ev.bind (spec_ConfOk_ev _ (by rw [bytes_len]; omega)) ?_
    by_cases h : pConfOk (bytesOf s) = true
    · simp only [h, if_true]
      rw [pReadConf_yes h]
      exact Ev.now _
    · simp only [h, if_false]
      rw [pReadConf_no h]
      exact Ev.now _
  · have c : ¬ (x.length : Int) = (s.size : Int) := by omega
    simp only [c, if_false]
    have hn : ¬ pConfOk (bytesOf s) = true := by
      intro h
      have := confOk_len _ h
      rw [bytes_len] at this
      omega
    rw [pReadConf_no hn]
    exact Ev.now _
theorem spec_ReadConf_ev (s : ByteArray) (hs : s.size ≤ 1048576) : Ev (fun k => spec_ReadConf.f k s) (pReadConf s) := by
  simp only [spec_ReadConf.f]
  have key := loop_up (fun k (x : List Int) i => spec_ReadConf.l0 k s x i) ((min 5 s.size : Nat) : Int) (pReadConf s) (fun x i => x = (bytesOf s).take i.toNat)
    (fun x hx => by
      have hx' : x = (bytesOf s).take 5 := by
        rw [hx, Int.toNat_natCast]
        by_cases h5 : s.size ≤ 5
        · rw [List.take_of_length_le (by rw [bytes_len]; omega), List.take_of_length_le (by rw [bytes_len]; omega)]
        · rw [show min 5 s.size = 5 by omega]
      have he := spec_ReadConf_end s hs x hx'
      by_cases c : ((min 5 s.size : Nat) : Int) < (s.size : Int)
      · have c2 : ¬ ((min 5 s.size : Nat) : Int) ≤ 4 := by omega
        simp only [spec_ReadConf.l0, c, c2, if_true, if_false]
        exact he
      · simp only [spec_ReadConf.l0, c, if_false]
        exact he)
    (fun x i h0 h1 hx ih => by
      have hxl : x.length ≤ s.size := by rw [hx, List.length_take, bytes_len]; omega
      have c1 : i < (s.size : Int) := by omega
      have c2 : i ≤ 4 := by omega
      have c3 : x.length < 17592186044416 := by omega
      have br := bt_range s i
      have e1 : wrap64 (bt s i) = bt s i := w64 (by omega) (by omega)
      have e2 : wrap64 (i + 1) = i + 1 := w64 (by omega) (by omega)
      simp only [spec_ReadConf.l0, c1, c2, h0, c3, if_true, e1, e2]
      refine ih _ ?_
      rw [take_snoc_rd _ i h0 (by rw [bytes_len]; exact c1), hx, bt_rd]
      rfl)
  exact key (min 5 s.size) 0 [] (by omega) (by omega) (by simp)

theorem spec_EntryOk_ev (t kd : Int) (s : ByteArray) (hs : s.size ≤ 1048576) : Ev (fun k => spec_EntryOk.f k t kd s) (pEntryOk t kd s) := by
  simp only [spec_EntryOk.f]
  refine Ev.bind (spec_l01In_ev _ _ _) ?_
  by_cases ht : 0 ≤ t ∧ t ≤ 100000
  · have hd : decide (0 ≤ t ∧ t ≤ 100000) = true := decide_eq_true ht
    simp only [hd, if_true]
    by_cases c1 : kd = 1
    · simp [pEntryOk, hd, c1]
    · by_cases c2 : kd = 2
      · simp only [c2, if_true, show ¬ (2 : Int) = 1 by decide, if_false]
        refine Ev.bind (spec_ReadConf_ev s hs) ?_
        by_cases h : pConfOk (bytesOf s) = true
        · simp [pEntryOk, hd, pReadConf_yes h, h]
        · simp [pEntryOk, hd, pReadConf_no h, h]
      · by_cases c3 : kd = 3
        · simp [pEntryOk, hd, c3]
        · simp [pEntryOk, c1, c2, c3]
  · have hd : decide (0 ≤ t ∧ t ≤ 100000) = false := decide_eq_false ht
    simp [pEntryOk, hd]

theorem spec_LogOk_l0 (a b : Int) (l : List (S56)) (hl : l.length ≤ 1048576) (hd : ∀ x ∈ l, x.f2.size ≤ 1048576) : ∀ (d : Nat) (i t : Int), 0 ≤ i → i + d = l.length →
    Ev (fun k => spec_LogOk.l0 k t i a b l) (pEnts t (l.drop i.toNat)) := by
  intro d
  induction d with
  | zero =>
    intro i t h0 h
    apply ev_succ
    have c : ¬ i < (l.length : Int) := by omega
    simp only [spec_LogOk.l0, c, if_false]
    rw [List.drop_of_length_le (by omega)]
    exact Ev.now _
  | succ d ih =>
    intro i t h0 h
    apply ev_succ
    have c : i < (l.length : Int) := by omega
    have e1 : wrap64 (i + 1) = i + 1 := w64 (by omega) (by omega)
    have hdr := drop_ent l i h0 c
    have hm : rd_T56 l i ∈ l := List.mem_of_mem_drop (i := i.toNat) (by rw [hdr]; exact List.mem_cons_self)
    have hh := ih (i + 1) (rd_T56 l i).f0 (by omega) (by omega)
    simp only [spec_LogOk.l0, c, h0, if_true, e1]
    rw [hdr]
    refine Ev.bind (spec_EntryOk_ev _ _ _ (hd _ hm)) ?_
    by_cases ho : pEntryOk (rd_T56 l i).f0 (rd_T56 l i).f1 (rd_T56 l i).f2 = true
    · by_cases hq : (rd_T56 l i).f0 < t
      · simp only [ho, hq, if_true]
        apply ev_some
        rw [pEnts, decide_eq_false (show ¬ t ≤ (rd_T56 l i).f0 by omega)]
        simp
      · simp only [ho, hq, if_true, if_false]
        rw [pEnts, ho, decide_eq_true (show t ≤ (rd_T56 l i).f0 by omega)]
        simpa using hh
    · simp only [ho, if_false]
      rw [Bool.not_eq_true] at ho
      apply ev_some
      rw [pEnts, ho]
      simp
theorem spec_LogOk_ev (a b : Int) (l : List (S56)) (hl : l.length ≤ 1048576) (hd : ∀ x ∈ l, x.f2.size ≤ 1048576) : Ev (fun k => spec_LogOk.f k a b l) (pLogOk a b l) := by
  simp only [spec_LogOk.f]
  have hno : ¬ ((0 ≤ a ∧ a ≤ 1000000) ∧ (0 ≤ b ∧ b ≤ 100000) ∧ l.length ≤ 60 ∧ a + l.length ≤ 1000000) → Ev (fun k => spec_LogOk.j0 k true a b l) (pLogOk a b l) := by
    intro hn
    apply ev_succ
    simp only [spec_LogOk.j0, if_true]
    apply ev_some
    rw [pLogOk, decide_eq_false hn, Bool.false_and]
  refine Ev.bind (spec_l01In_ev _ _ _) ?_
  by_cases ha : 0 ≤ a ∧ a ≤ 1000000
  · simp only [ha, and_self, decide_true, if_true]
    refine Ev.bind (spec_l01In_ev _ _ _) ?_
    by_cases hb : 0 ≤ b ∧ b ≤ 100000
    · simp only [hb, and_self, decide_true, if_true]
      have e : wrap64 (a + l.length) = a + l.length := w64 (by omega) (by omega)
      by_cases hc : (l.length : Int) > 60
      · simp only [hc, if_true]
        exact hno (fun h => by have := h.2.2.1; omega)
      · simp only [hc, if_false, e]
        by_cases hs : a + (l.length : Int) > 1000000
        · simp only [hs, decide_true]
          exact hno (fun h => by have := h.2.2.2; omega)
        · simp only [hs, decide_false]
          apply ev_succ
          simp only [spec_LogOk.j0, Bool.false_eq_true, if_false]
          rw [pLogOk, decide_eq_true ⟨ha, hb, by omega, by omega⟩, Bool.true_and]
          simpa using spec_LogOk_l0 a b l hl hd l.length 0 b (by omega) (by omega)
    · simp only [hb, decide_false, Bool.false_eq_true, if_false]
      exact hno (fun h => hb h.2.1)
  · simp only [ha, decide_false, Bool.false_eq_true, if_false]
    exact hno (fun h => ha h.1)

def pTerm (a b : Int) (l : List (S56)) (i : Int) : Int := if i = a then b else if a < i ∧ i - a ≤ l.length then (rd_T56 l (i - a - 1)).f0 else -1
def eqE (x y : S56) : Bool := x.f0 == y.f0 && (x.f1 == y.f1 && (x.f2.toList == y.f2.toList))
def shC (a : Int) (l : List (S56)) (c : Int) (m : List (S56)) (x : Int) : Prop :=
  x < a + l.length ∧ x < c + m.length ∧ eqE (rd_T56 l (x - a)) (rd_T56 m (x - c)) = true
instance (a : Int) (l : List (S56)) (c : Int) (m : List (S56)) (x : Int) : Decidable (shC a l c m x) := by unfold shC; infer_instance
def pShL (a : Int) (l : List (S56)) (c : Int) (m : List (S56)) : Nat → Int → Int
  | 0, x => x
  | f + 1, x => if shC a l c m x then pShL a l c m f (x + 1) else x
theorem pShL_yes {a c x : Int} {l m : List (S56)} {f : Nat} (h : shC a l c m x) : pShL a l c m (f + 1) x = pShL a l c m f (x + 1) := by rw [pShL, if_pos h]
theorem pShL_no {a c x : Int} {l m : List (S56)} {f : Nat} (h : ¬ shC a l c m x) : pShL a l c m (f + 1) x = x := by rw [pShL, if_neg h]
def shOk (a b : Int) (l : List (S56)) (c d : Int) (m : List (S56)) : Prop :=
  (pLogOk a b l = true ∧ pLogOk c d m = true) ∧ ¬ pTerm a b l (if c > a then c else a) < 0 ∧ pTerm a b l (if c > a then c else a) = pTerm c d m (if c > a then c else a)
instance (a b : Int) (l : List (S56)) (c d : Int) (m : List (S56)) : Decidable (shOk a b l c d m) := by unfold shOk; infer_instance
def pShared (a b : Int) (l : List (S56)) (c d : Int) (m : List (S56)) : Int := if shOk a b l c d m then pShL a l c m (l.length + 1) (if c > a then c else a) else -1
theorem pShared_yes {a b c d : Int} {l m : List (S56)} (h : shOk a b l c d m) : pShared a b l c d m = pShL a l c m (l.length + 1) (if c > a then c else a) := by rw [pShared, if_pos h]
theorem pShared_no {a b c d : Int} {l m : List (S56)} (h : ¬ shOk a b l c d m) : pShared a b l c d m = -1 := by rw [pShared, if_neg h]
theorem pEnts_terms : ∀ (l : List (S56)) (t : Int), pEnts t l = true → ∀ x ∈ l, 0 ≤ x.f0 ∧ pEntryOk x.f0 x.f1 x.f2 = true := by
  intro l
  induction l with
  | nil => intro t _ x hx; simp at hx
  | cons e l ih =>
    intro t h x hx
    simp only [pEnts, Bool.and_eq_true, decide_eq_true_eq] at h
    rcases List.mem_cons.1 hx with rfl | hx
    · have h1 := h.1.1
      simp only [pEntryOk, Bool.and_eq_true, decide_eq_true_eq] at h1
      exact ⟨h1.1.1, h.1.1⟩
    · exact ih _ h.2 x hx
theorem pLogOk_facts {a b : Int} {l : List (S56)} (h : pLogOk a b l = true) : (0 ≤ a ∧ a ≤ 1000000) ∧ (0 ≤ b ∧ b ≤ 100000) ∧ l.length ≤ 60 ∧ a + l.length ≤ 1000000 ∧ ∀ x ∈ l, 0 ≤ x.f0 ∧ pEntryOk x.f0 x.f1 x.f2 = true := by
  simp only [pLogOk, Bool.and_eq_true, decide_eq_true_eq] at h
  exact ⟨h.1.1, h.1.2.1, h.1.2.2.1, h.1.2.2.2, pEnts_terms l b h.2⟩
theorem rd_mem_ent (l : List (S56)) (i : Int) (h0 : 0 ≤ i) (h1 : i < l.length) : rd_T56 l i ∈ l :=
  List.mem_of_mem_drop (i := i.toNat) (by rw [drop_ent l i h0 h1]; exact List.mem_cons_self)

def pLogPut (a b : Int) (l : List (S56)) (i : Int) (e : S56) : Int × Int × List (S56) × Bool :=
  if pLogOk a b l = true ∧ a + 1 ≤ i ∧ i ≤ a + l.length + 1 then
    (if pLogOk a b (l.take (i - a - 1).toNat ++ [e]) = true then (a, b, l.take (i - a - 1).toNat ++ [e], true) else (0, 0, [], false))
  else (0, 0, [], false)
theorem pLogPut_no {a b : Int} {l : List (S56)} {i : Int} {e : S56} (h : ¬ (pLogOk a b l = true ∧ a + 1 ≤ i ∧ i ≤ a + l.length + 1)) : pLogPut a b l i e = (0, 0, [], false) := by rw [pLogPut, if_neg h]
theorem pLogPut_yes {a b : Int} {l : List (S56)} {i : Int} {e : S56} (h : pLogOk a b l = true ∧ a + 1 ≤ i ∧ i ≤ a + l.length + 1) :
    pLogPut a b l i e = if pLogOk a b (l.take (i - a - 1).toNat ++ [e]) = true then (a, b, l.take (i - a - 1).toNat ++ [e], true) else (0, 0, [], false) := by rw [pLogPut, if_pos h]
theorem pLogPut_len (a b : Int) (l : List (S56)) (i : Int) (e : S56) : (pLogPut a b l i e).2.2.1.length ≤ l.length + 1 := by
  unfold pLogPut
  split
  · split
    · simp only [List.length_append, List.length_take, List.length_cons, List.length_nil]; omega
    · simp
  · simp
theorem put_d {l : List (S56)} {e : S56} (hd : ∀ x ∈ l, x.f2.size ≤ 1048576) (he : e.f2.size ≤ 1048576) (n : Nat) : ∀ x ∈ l.take n ++ [e], x.f2.size ≤ 1048576 := by
  intro x hx
  rcases List.mem_append.1 hx with h | h
  · exact hd x (List.mem_of_mem_take h)
  · rw [List.mem_singleton] at h; rw [h]; exact he
theorem spec_LogPut_ev (a b : Int) (l : List (S56)) (i : Int) (e : S56) (hl : l.length ≤ 1048576) (hd : ∀ x ∈ l, x.f2.size ≤ 1048576) (he : e.f2.size ≤ 1048576) : Ev (fun k => spec_LogPut.f k a b l i e.f0 e.f1 e.f2) (pLogPut a b l i e) := by
  obtain ⟨x, y, z⟩ := e
  simp only [spec_LogPut.f]
  refine Ev.bind (spec_LogOk_ev a b l hl hd) ?_
  have hno : ¬ (pLogOk a b l = true ∧ a + 1 ≤ i ∧ i ≤ a + l.length + 1) → Ev (fun k => spec_LogPut.j0 k i true a b l x y z) (pLogPut a b l i ⟨x, y, z⟩) := by
    intro hn
    apply ev_succ
    simp only [spec_LogPut.j0, if_true]
    rw [pLogPut_no hn]
    exact Ev.now _
  by_cases ho : pLogOk a b l = true
  · obtain ⟨f1, f2, f3, f4, _⟩ := pLogOk_facts ho
    have hl2 : (l.take (i - a - 1).toNat ++ [(⟨x, y, z⟩ : S56)]).length ≤ 1048576 := by simp only [List.length_append, List.length_take, List.length_cons, List.length_nil]; omega
    have hd2 : ∀ u ∈ l.take (i - a - 1).toNat ++ [(⟨x, y, z⟩ : S56)], u.f2.size ≤ 1048576 := put_d hd he _
    have c3 : ([] : List (S56)).length + (l.take (i - a - 1).toNat).length < 4398046511104 := by rw [List.length_take, List.length_nil]; omega
    have c4 : (([] : List (S56)) ++ l.take (i - a - 1).toNat).length + ([⟨x, y, z⟩] : List (S56)).length < 4398046511104 := by rw [List.nil_append, List.length_take]; simp; omega
    have e1 : wrap64 (a + (l.length : Int)) = a + l.length := w64 (by omega) (by omega)
    have e2 : wrap64 (a + 1) = a + 1 := w64 (by omega) (by omega)
    have e3 : wrap64 (a + (l.length : Int) + 1) = a + l.length + 1 := w64 (by omega) (by omega)
    simp only [ho, if_true, spec_l06Last.f, Option.bind_some, e1, e2, e3]
    refine Ev.bind (spec_l01In_ev _ _ _) ?_
    by_cases hi : a + 1 ≤ i ∧ i ≤ a + l.length + 1
    · rw [pLogPut_yes ⟨ho, hi⟩]
      have e4 : wrap64 (i - a) = i - a := w64 (by omega) (by omega)
      have e5 : wrap64 (i - a - 1) = i - a - 1 := w64 (by omega) (by omega)
      have c1 : 0 ≤ i - a - 1 := by omega
      have c2 : i - a - 1 ≤ (l.length : Int) := by omega
      simp only [hi, and_self, decide_true, Bool.not_true]
      apply ev_succ
      simp only [spec_LogPut.j0, Bool.false_eq_true, if_false, Option.bind_some, e4, e5, c1, c2, c3, c4, if_true]
      simp only [List.nil_append]
      clear c3 c4
      generalize l.take (i - a - 1).toNat ++ [(⟨x, y, z⟩ : S56)] = u at hl2 hd2 ⊢
      refine Ev.bind (spec_LogOk_ev a b u hl2 hd2) ?_
      by_cases hq : pLogOk a b u = true
      · simp only [hq, if_true]; exact Ev.now _
      · simp only [hq, if_false]; exact Ev.now _
    · simp only [hi, decide_false, Bool.not_false]
      exact hno (fun h => hi h.2)
  · simp only [ho, if_false]
    exact hno (fun h => ho h.1)
theorem impl_LogPut_ev (a b : Int) (l : List (S56)) (i : Int) (e : S56) (hl : l.length ≤ 1048576) (hd : ∀ x ∈ l, x.f2.size ≤ 1048576) (he : e.f2.size ≤ 1048576) : Ev (fun k => impl_LogPut.f k a b l i e.f0 e.f1 e.f2) (pLogPut a b l i e) := by
  obtain ⟨x, y, z⟩ := e
  simp only [impl_LogPut.f]
  have hlast : ∃ t : Int, impl_LogLast.f a b l = some ((if l.length = 0 then a else wrap64 (a + l.length)), t) := by
    unfold impl_LogLast.f
    by_cases c : l.length = 0
    · exact ⟨b, by simp [c]⟩
    · have e1 : wrap64 ((l.length : Int) - 1) = (l.length : Int) - 1 := w64 (by omega) (by omega)
      refine ⟨(rd_T56 l ((l.length : Int) - 1)).f0, ?_⟩
      rw [if_neg (by omega), e1, if_pos (by omega), if_pos (by omega), if_neg c]
  obtain ⟨t, hlast⟩ := hlast
  refine Ev.bind (ev_const hlast) ?_
  refine Ev.bind (impl_LogOk_ev a b l hl hd) ?_
  have hno : ¬ (pLogOk a b l = true ∧ a + 1 ≤ i ∧ i ≤ a + l.length + 1) → Ev (fun k => impl_LogPut.j0 k i true a b l x y z) (pLogPut a b l i ⟨x, y, z⟩) := by
    intro hn
    apply ev_succ
    simp only [impl_LogPut.j0, if_true]
    rw [pLogPut_no hn]
    exact Ev.now _
  by_cases ho : pLogOk a b l = true
  · obtain ⟨f1, f2, f3, f4, _⟩ := pLogOk_facts ho
    have hl2 : (l.take (i - a - 1).toNat ++ [(⟨x, y, z⟩ : S56)]).length ≤ 1048576 := by simp only [List.length_append, List.length_take, List.length_cons, List.length_nil]; omega
    have hd2 : ∀ u ∈ l.take (i - a - 1).toNat ++ [(⟨x, y, z⟩ : S56)], u.f2.size ≤ 1048576 := put_d hd he _
    have e0 : (if l.length = 0 then a else wrap64 (a + l.length)) = a + (l.length : Int) := by
      by_cases c : l.length = 0
      · rw [if_pos c]; omega
      · rw [if_neg c]; exact w64 (by omega) (by omega)
    have e2 : wrap64 (a + 1) = a + 1 := w64 (by omega) (by omega)
    have e3 : wrap64 (a + (l.length : Int) + 1) = a + l.length + 1 := w64 (by omega) (by omega)
    simp only [ho, if_true, e0, e2, e3]
    refine Ev.bind (impl_within_ev _ _ _) ?_
    by_cases hi : a + 1 ≤ i ∧ i ≤ a + l.length + 1
    · rw [pLogPut_yes ⟨ho, hi⟩]
      have e4 : wrap64 (i - a) = i - a := w64 (by omega) (by omega)
      have e5 : wrap64 (i - a - 1) = i - a - 1 := w64 (by omega) (by omega)
      have c1 : 0 ≤ i - a - 1 := by omega
      have c2 : i - a - 1 ≤ (l.length : Int) := by omega
      have c3 : ([] : List (S56)).length + l.length < 4398046511104 := by rw [List.length_nil]; omega
      have c4 : (l.take (i - a - 1).toNat).length < 4398046511104 := by rw [List.length_take]; omega
      simp only [hi, and_self, decide_true, Bool.not_true]
      apply ev_succ
      simp only [impl_LogPut.j0, impl_copyLog.f, Bool.false_eq_true, if_false, Option.bind_some, c3, if_true, List.nil_append, e4, e5, c1, c2, c4]
      refine Ev.bind (impl_LogOk_ev a b (l.take (i - a - 1).toNat ++ [⟨x, y, z⟩]) hl2 hd2) ?_
      by_cases hq : pLogOk a b (l.take (i - a - 1).toNat ++ [⟨x, y, z⟩]) = true
      · simp only [hq, if_true]; exact Ev.now _
      · simp only [hq, if_false]; exact Ev.now _
    · simp only [hi, decide_false, Bool.not_false]
      exact hno (fun h => hi h.2)
  · simp only [ho, if_false]
    exact hno (fun h => ho h.1)

structure JV where
  n : Int
  t : Int
  v : Int
  a : Int
  b : Int
  l : List (S56)
def pTold (j : JV) (r : ByteArray) : JV × Bool :=
  if (twoP r 72).2.2 = true then (if (0 ≤ (twoP r 72).1 ∧ (twoP r 72).1 ≤ 100000) ∧ (0 ≤ (twoP r 72).2.1 ∧ (twoP r 72).2.1 ≤ 4) then (⟨j.n, (twoP r 72).1, (twoP r 72).2.1, j.a, j.b, j.l⟩, true) else (j, false))
  else if (entP r).2.2.2.2 = true then
    (if (pLogPut j.a j.b j.l (entP r).1 ⟨(entP r).2.1, (entP r).2.2.1, (entP r).2.2.2.1⟩).2.2.2 = true then (⟨j.n, j.t, j.v, (pLogPut j.a j.b j.l (entP r).1 ⟨(entP r).2.1, (entP r).2.2.1, (entP r).2.2.2.1⟩).1, (pLogPut j.a j.b j.l (entP r).1 ⟨(entP r).2.1, (entP r).2.2.1, (entP r).2.2.2.1⟩).2.1, (pLogPut j.a j.b j.l (entP r).1 ⟨(entP r).2.1, (entP r).2.2.1, (entP r).2.2.2.1⟩).2.2.1⟩, true) else (j, false))
  else (j, false)
def pGo : List ByteArray → JV → Int → JV × Int
  | [], j, at_ => (j, at_)
  | r :: rs, j, at_ => if (pTold j r).2 = true then pGo rs (pTold j r).1 (at_ + ((pFrame r).1.size : Int)) else (j, at_)
def pReadJ (n : Int) (s : ByteArray) : JV × Int × Bool :=
  match (pUnframe s).1 with
  | [] => (⟨0, 0, 0, 0, 0, []⟩, 0, false)
  | r :: rs => if (0 ≤ n ∧ n ≤ 999) ∧ (twoP r 66).2.2 = true ∧ pLogOk (twoP r 66).1 (twoP r 66).2.1 [] = true then
      ((pGo rs ⟨n, 0, 0, (twoP r 66).1, (twoP r 66).2.1, []⟩ ((pFrame r).1.size : Int)).1, (pGo rs ⟨n, 0, 0, (twoP r 66).1, (twoP r 66).2.1, []⟩ ((pFrame r).1.size : Int)).2, true)
    else (⟨0, 0, 0, 0, 0, []⟩, 0, false)
theorem pUnfr_recs (s : ByteArray) : ∀ (f : Nat) (acc : List ByteArray) (at_ : Int), (∀ r ∈ acc, r.size ≤ 9000) → ∀ r ∈ (pUnfr s f acc at_).1, r.size ≤ 9000 := by
  intro f
  induction f with
  | zero => intro acc at_ h; exact h
  | succ f ih =>
    intro acc at_ h
    by_cases hu : uOk s at_
    · rw [pUnfr_yes hu]
      refine ih _ _ (fun r hr => ?_)
      rcases List.mem_append.1 hr with hr | hr
      · exact h r hr
      · rw [List.mem_singleton] at hr
        rw [hr, uRec, size_ext]
        have := hu.2.1
        omega
    · rw [pUnfr_no hu]
      exact h
theorem pUnframe_recs (s : ByteArray) : (pUnframe s).1.length ≤ 20001 ∧ ∀ r ∈ (pUnframe s).1, r.size ≤ 9000 := by
  unfold pUnframe
  split
  · refine ⟨?_, pUnfr_recs s _ _ _ (by intro r hr; cases hr)⟩
    have := pUnfr_len s (s.size + 1) [] 0
    simp only [List.length_nil] at this
    omega
  · exact ⟨by simp, by intro r hr; cases hr⟩
theorem pFrame_size (r : ByteArray) : ((pFrame r).1.size : Int) ≤ 9009 := by
  by_cases h : 1 ≤ r.size ∧ r.size ≤ 9000
  · rw [pFrame_yes h]
    show ((varB r.size ++ strOfNums (four (sumN r)) ++ r).size : Int) ≤ 9009
    have := varB_size5 (n := r.size) (by omega)
    rw [size_app, size_app, str_len]
    simp only [four, List.length_cons, List.length_nil]
    omega
  · rw [pFrame_no h]
    decide
theorem entP_size (s : ByteArray) : (entP s).2.2.2.1.size ≤ s.size := by
  unfold entP
  simp only
  split
  · exact Nat.zero_le _
  · split
    · simp only [size_ext]; omega
    · exact Nat.zero_le _
def JV.ok (j : JV) : Prop := j.l.length ≤ 1048576 ∧ ∀ x ∈ j.l, x.f2.size ≤ 1048576
theorem pLogPut_ok {a b i : Int} {l : List (S56)} {e : S56} (hl : ∀ x ∈ l, x.f2.size ≤ 1048576) (he : e.f2.size ≤ 1048576) :
    (pLogPut a b l i e).2.2.1.length ≤ 1048576 ∧ ∀ x ∈ (pLogPut a b l i e).2.2.1, x.f2.size ≤ 1048576 := by
  unfold pLogPut
  split
  · split
    · rename_i h
      refine ⟨?_, put_d hl he _⟩
      have := (pLogOk_facts h).2.2.1
      simp only
      omega
    · exact ⟨Nat.zero_le _, fun x hx => by cases hx⟩
  · exact ⟨Nat.zero_le _, fun x hx => by cases hx⟩
theorem pTold_ok (j : JV) (r : ByteArray) (h : j.ok) (hr : r.size ≤ 1048576) : (pTold j r).1.ok := by
  unfold pTold
  split
  · split
    · exact h
    · exact h
  · split
    · split
      · exact pLogPut_ok h.2 (Nat.le_trans (entP_size r) hr)
      · exact h
    · exact h
theorem pGo_ok : ∀ (rs : List ByteArray) (j : JV) (at_ : Int), j.ok → (∀ r ∈ rs, r.size ≤ 9000) → (pGo rs j at_).1.ok
  | [], _, _, h, _ => h
  | r :: rs, j, at_, h, hr => by
    rw [pGo]
    split
    · exact pGo_ok rs _ _ (pTold_ok j r h (by have := hr r List.mem_cons_self; omega)) (fun x hx => hr x (List.mem_cons_of_mem _ hx))
    · exact h
theorem pReadJ_ok (n : Int) (s : ByteArray) : (pReadJ n s).1.ok := by
  have h := pUnframe_recs s
  have z : ∀ n t v a b : Int, (⟨n, t, v, a, b, []⟩ : JV).ok := fun _ _ _ _ _ => ⟨Nat.zero_le _, fun x hx => by cases hx⟩
  unfold pReadJ
  split
  · exact z _ _ _ _ _
  · rename_i r rs e
    rw [e] at h
    split
    · exact pGo_ok rs _ _ (z _ _ _ _ _) (fun x hx => h.2 x (List.mem_cons_of_mem _ hx))
    · exact z _ _ _ _ _

theorem impl_ReadVar_i5 (s : ByteArray) (at_ n : Int) (l : List Int) (sc : Int) : Ev (fun k => impl_ReadVar.l0 k s at_ n 5) (rvOut (at_ + 5) (rvF 0 sc n false l)) := by
  apply ev_succ
  simp only [impl_ReadVar.l0, show ¬ (5 : Int) < 5 by decide, if_false]
  apply ev_succ
  simp only [impl_ReadVar.j1, Bool.false_eq_true, if_false]
  exact Ev.now _
theorem impl_ReadVar_i4 (s : ByteArray) (hs : s.size ≤ 140737488351232) (at_ : Int) (h0 : 0 ≤ at_) (h1 : at_ ≤ s.size) (n : Int) (hn0 : 0 ≤ n) (hn : n < 268435456) :
    Ev (fun k => impl_ReadVar.l0 k s at_ n 4) (rvOut (at_ + 4) (rvF 1 268435456 n false ((bytesOf s).drop (at_ + 4).toNat))) := by
  apply ev_succ
  have e1 : wrap64 (at_ + 4) = at_ + 4 := w64 (by omega) (by omega)
  simp only [impl_ReadVar.l0, show (4 : Int) < 5 by decide, if_true, e1]
  apply ev_succ
  by_cases c : at_ + 4 < (s.size : Int)
  · rw [drop_bt s (at_ + 4) (by omega) c]
    have br := bt_range s (at_ + 4)
    have e0 : 0 ≤ at_ + 4 := by omega
    have e7 : (at_ + 4 + 1).toNat = (at_ + 5).toNat := by omega
    rw [e7]
    simp only [impl_ReadVar.j1, c, decide_true, if_true, e0, e1]
    have hnext := fun (m : Int) (_ _ : True) => impl_ReadVar_i5 s at_ m ((bytesOf s).drop (at_ + 5).toNat) 34359738368
    generalize bt s (at_ + 4) = b at br hnext ⊢
    have e2 : wrap64 b = b := w64 (by omega) (by omega)
    have e3 : Int.tmod b 128 = b % 128 := Int.tmod_eq_emod_of_nonneg (by omega)
    have e4 : wrap64 (7 * 4) = 28 := wlit (by decide) (by decide) (by decide)
    have e5 : shl .i64 (b % 128) 28 = b % 128 * 268435456 := shl7 (b % 128) 28 (by omega) (by omega) (by decide)
    have e6 : wrap64 (n + b % 128 * 268435456) = n + b % 128 * 268435456 := w64 (by omega) (by omega)
    have e8 : wrap64 (4 + 1) = 5 := wlit (by decide) (by decide) (by decide)
    have e9 : wrap64 (at_ + 4 + 1) = at_ + 4 + 1 := w64 (by omega) (by omega)
    simp only [if_true, e1, e2, e3, e4, e5, e6, e8, e9, show (0 : Int) ≤ 28 by decide, show (4 : Int) > 0 by decide]
    by_cases hb : b > 127
    · have hh := hnext (n + b % 128 * 268435456) trivial trivial
      rw [rvF_more hb, rvOut_map]
      simp only [hb, if_true]
      simpa only [show at_ + 4 + 1 = at_ + 5 by omega, show (268435456 : Int) * 128 = 34359738368 by decide] using hh
    · by_cases hz : b = 0
      · rw [rvF_stop hb (Or.inl ⟨rfl, hz⟩)]
        simp only [hb, hz, if_true, if_false]
        exact Ev.now _
      · by_cases hg : n + b % 128 * 268435456 > 1000000000
        · rw [rvF_stop hb (Or.inr hg)]
          simp only [hb, hz, hg, if_true, if_false]
          exact Ev.now _
        · rw [rvF_take hb (by simp [hz]) hg]
          simp only [hb, hz, hg, if_false]
          exact Ev.now _
  · simp only [impl_ReadVar.j1, c, decide_false, Bool.false_eq_true, if_false]
    rw [List.drop_of_length_le (by rw [bytes_len]; omega)]
    exact Ev.now _
theorem impl_ReadVar_i3 (s : ByteArray) (hs : s.size ≤ 140737488351232) (at_ : Int) (h0 : 0 ≤ at_) (h1 : at_ ≤ s.size) (n : Int) (hn0 : 0 ≤ n) (hn : n < 2097152) :
    Ev (fun k => impl_ReadVar.l0 k s at_ n 3) (rvOut (at_ + 3) (rvF 2 2097152 n false ((bytesOf s).drop (at_ + 3).toNat))) := by
  apply ev_succ
  have e1 : wrap64 (at_ + 3) = at_ + 3 := w64 (by omega) (by omega)
  simp only [impl_ReadVar.l0, show (3 : Int) < 5 by decide, if_true, e1]
  apply ev_succ
  by_cases c : at_ + 3 < (s.size : Int)
  · rw [drop_bt s (at_ + 3) (by omega) c]
    have br := bt_range s (at_ + 3)
    have e0 : 0 ≤ at_ + 3 := by omega
    have e7 : (at_ + 3 + 1).toNat = (at_ + 4).toNat := by omega
    rw [e7]
    simp only [impl_ReadVar.j1, c, decide_true, if_true, e0, e1]
    have hnext := fun (m : Int) (hm0 : 0 ≤ m) (hm : m < 268435456) => impl_ReadVar_i4 s hs at_ h0 h1 m hm0 hm
    generalize bt s (at_ + 3) = b at br hnext ⊢
    have e2 : wrap64 b = b := w64 (by omega) (by omega)
    have e3 : Int.tmod b 128 = b % 128 := Int.tmod_eq_emod_of_nonneg (by omega)
    have e4 : wrap64 (7 * 3) = 21 := wlit (by decide) (by decide) (by decide)
    have e5 : shl .i64 (b % 128) 21 = b % 128 * 2097152 := shl7 (b % 128) 21 (by omega) (by omega) (by decide)
    have e6 : wrap64 (n + b % 128 * 2097152) = n + b % 128 * 2097152 := w64 (by omega) (by omega)
    have e8 : wrap64 (3 + 1) = 4 := wlit (by decide) (by decide) (by decide)
    have e9 : wrap64 (at_ + 3 + 1) = at_ + 3 + 1 := w64 (by omega) (by omega)
    simp only [if_true, e1, e2, e3, e4, e5, e6, e8, e9, show (0 : Int) ≤ 21 by decide, show (3 : Int) > 0 by decide]
    by_cases hb : b > 127
    · have hh := hnext (n + b % 128 * 2097152) (by omega) (by omega)
      rw [rvF_more hb, rvOut_map]
      simp only [hb, if_true]
      simpa only [show at_ + 3 + 1 = at_ + 4 by omega, show (2097152 : Int) * 128 = 268435456 by decide] using hh
    · by_cases hz : b = 0
      · rw [rvF_stop hb (Or.inl ⟨rfl, hz⟩)]
        simp only [hb, hz, if_true, if_false]
        exact Ev.now _
      · by_cases hg : n + b % 128 * 2097152 > 1000000000
        · rw [rvF_stop hb (Or.inr hg)]
          simp only [hb, hz, hg, if_true, if_false]
          exact Ev.now _
        · rw [rvF_take hb (by simp [hz]) hg]
          simp only [hb, hz, hg, if_false]
          exact Ev.now _
  · simp only [impl_ReadVar.j1, c, decide_false, Bool.false_eq_true, if_false]
    rw [List.drop_of_length_le (by rw [bytes_len]; omega)]
    exact Ev.now _
theorem impl_ReadVar_i2 (s : ByteArray) (hs : s.size ≤ 140737488351232) (at_ : Int) (h0 : 0 ≤ at_) (h1 : at_ ≤ s.size) (n : Int) (hn0 : 0 ≤ n) (hn : n < 16384) :
    Ev (fun k => impl_ReadVar.l0 k s at_ n 2) (rvOut (at_ + 2) (rvF 3 16384 n false ((bytesOf s).drop (at_ + 2).toNat))) := by
  apply ev_succ
  have e1 : wrap64 (at_ + 2) = at_ + 2 := w64 (by omega) (by omega)
  simp only [impl_ReadVar.l0, show (2 : Int) < 5 by decide, if_true, e1]
  apply ev_succ
  by_cases c : at_ + 2 < (s.size : Int)
  · rw [drop_bt s (at_ + 2) (by omega) c]
    have br := bt_range s (at_ + 2)
    have e0 : 0 ≤ at_ + 2 := by omega
    have e7 : (at_ + 2 + 1).toNat = (at_ + 3).toNat := by omega
    rw [e7]
    simp only [impl_ReadVar.j1, c, decide_true, if_true, e0, e1]
    have hnext := fun (m : Int) (hm0 : 0 ≤ m) (hm : m < 2097152) => impl_ReadVar_i3 s hs at_ h0 h1 m hm0 hm
    generalize bt s (at_ + 2) = b at br hnext ⊢
    have e2 : wrap64 b = b := w64 (by omega) (by omega)
    have e3 : Int.tmod b 128 = b % 128 := Int.tmod_eq_emod_of_nonneg (by omega)
    have e4 : wrap64 (7 * 2) = 14 := wlit (by decide) (by decide) (by decide)
    have e5 : shl .i64 (b % 128) 14 = b % 128 * 16384 := shl7 (b % 128) 14 (by omega) (by omega) (by decide)
    have e6 : wrap64 (n + b % 128 * 16384) = n + b % 128 * 16384 := w64 (by omega) (by omega)
    have e8 : wrap64 (2 + 1) = 3 := wlit (by decide) (by decide) (by decide)
    have e9 : wrap64 (at_ + 2 + 1) = at_ + 2 + 1 := w64 (by omega) (by omega)
    simp only [if_true, e1, e2, e3, e4, e5, e6, e8, e9, show (0 : Int) ≤ 14 by decide, show (2 : Int) > 0 by decide]
    by_cases hb : b > 127
    · have hh := hnext (n + b % 128 * 16384) (by omega) (by omega)
      rw [rvF_more hb, rvOut_map]
      simp only [hb, if_true]
      simpa only [show at_ + 2 + 1 = at_ + 3 by omega, show (16384 : Int) * 128 = 2097152 by decide] using hh
    · by_cases hz : b = 0
      · rw [rvF_stop hb (Or.inl ⟨rfl, hz⟩)]
        simp only [hb, hz, if_true, if_false]
        exact Ev.now _
      · by_cases hg : n + b % 128 * 16384 > 1000000000
        · rw [rvF_stop hb (Or.inr hg)]
          simp only [hb, hz, hg, if_true, if_false]
          exact Ev.now _
        · rw [rvF_take hb (by simp [hz]) hg]
          simp only [hb, hz, hg, if_false]
          exact Ev.now _
  · simp only [impl_ReadVar.j1, c, decide_false, Bool.false_eq_true, if_false]
    rw [List.drop_of_length_le (by rw [bytes_len]; omega)]
    exact Ev.now _
theorem impl_ReadVar_i1 (s : ByteArray) (hs : s.size ≤ 140737488351232) (at_ : Int) (h0 : 0 ≤ at_) (h1 : at_ ≤ s.size) (n : Int) (hn0 : 0 ≤ n) (hn : n < 128) :
    Ev (fun k => impl_ReadVar.l0 k s at_ n 1) (rvOut (at_ + 1) (rvF 4 128 n false ((bytesOf s).drop (at_ + 1).toNat))) := by
  apply ev_succ
  have e1 : wrap64 (at_ + 1) = at_ + 1 := w64 (by omega) (by omega)
  simp only [impl_ReadVar.l0, show (1 : Int) < 5 by decide, if_true, e1]
  apply ev_succ
  by_cases c : at_ + 1 < (s.size : Int)
  · rw [drop_bt s (at_ + 1) (by omega) c]
    have br := bt_range s (at_ + 1)
    have e0 : 0 ≤ at_ + 1 := by omega
    have e7 : (at_ + 1 + 1).toNat = (at_ + 2).toNat := by omega
    rw [e7]
    simp only [impl_ReadVar.j1, c, decide_true, if_true, e0, e1]
    have hnext := fun (m : Int) (hm0 : 0 ≤ m) (hm : m < 16384) => impl_ReadVar_i2 s hs at_ h0 h1 m hm0 hm
    generalize bt s (at_ + 1) = b at br hnext ⊢
    have e2 : wrap64 b = b := w64 (by omega) (by omega)
    have e3 : Int.tmod b 128 = b % 128 := Int.tmod_eq_emod_of_nonneg (by omega)
    have e4 : wrap64 (7 * 1) = 7 := wlit (by decide) (by decide) (by decide)
    have e5 : shl .i64 (b % 128) 7 = b % 128 * 128 := shl7 (b % 128) 7 (by omega) (by omega) (by decide)
    have e6 : wrap64 (n + b % 128 * 128) = n + b % 128 * 128 := w64 (by omega) (by omega)
    have e8 : wrap64 (1 + 1) = 2 := wlit (by decide) (by decide) (by decide)
    have e9 : wrap64 (at_ + 1 + 1) = at_ + 1 + 1 := w64 (by omega) (by omega)
    simp only [if_true, e1, e2, e3, e4, e5, e6, e8, e9, show (0 : Int) ≤ 7 by decide, show (1 : Int) > 0 by decide]
    by_cases hb : b > 127
    · have hh := hnext (n + b % 128 * 128) (by omega) (by omega)
      rw [rvF_more hb, rvOut_map]
      simp only [hb, if_true]
      simpa only [show at_ + 1 + 1 = at_ + 2 by omega, show (128 : Int) * 128 = 16384 by decide] using hh
    · by_cases hz : b = 0
      · rw [rvF_stop hb (Or.inl ⟨rfl, hz⟩)]
        simp only [hb, hz, if_true, if_false]
        exact Ev.now _
      · by_cases hg : n + b % 128 * 128 > 1000000000
        · rw [rvF_stop hb (Or.inr hg)]
          simp only [hb, hz, hg, if_true, if_false]
          exact Ev.now _
        · rw [rvF_take hb (by simp [hz]) hg]
          simp only [hb, hz, hg, if_false]
          exact Ev.now _
  · simp only [impl_ReadVar.j1, c, decide_false, Bool.false_eq_true, if_false]
    rw [List.drop_of_length_le (by rw [bytes_len]; omega)]
    exact Ev.now _
theorem impl_ReadVar_i0 (s : ByteArray) (hs : s.size ≤ 140737488351232) (at_ : Int) (h0 : 0 ≤ at_) (h1 : at_ ≤ s.size) (n : Int) (hn0 : 0 ≤ n) (hn : n < 1) :
    Ev (fun k => impl_ReadVar.l0 k s at_ n 0) (rvOut (at_ + 0) (rvF 5 1 n true ((bytesOf s).drop (at_ + 0).toNat))) := by
  apply ev_succ
  have e1 : wrap64 (at_ + 0) = at_ + 0 := w64 (by omega) (by omega)
  simp only [impl_ReadVar.l0, show (0 : Int) < 5 by decide, if_true, e1]
  apply ev_succ
  by_cases c : at_ + 0 < (s.size : Int)
  · rw [drop_bt s (at_ + 0) (by omega) c]
    have br := bt_range s (at_ + 0)
    have e0 : 0 ≤ at_ + 0 := by omega
    have e7 : (at_ + 0 + 1).toNat = (at_ + 1).toNat := by omega
    rw [e7]
    simp only [impl_ReadVar.j1, c, decide_true, if_true, e0, e1]
    have hnext := fun (m : Int) (hm0 : 0 ≤ m) (hm : m < 128) => impl_ReadVar_i1 s hs at_ h0 h1 m hm0 hm
    generalize bt s (at_ + 0) = b at br hnext ⊢
    have e2 : wrap64 b = b := w64 (by omega) (by omega)
    have e3 : Int.tmod b 128 = b % 128 := Int.tmod_eq_emod_of_nonneg (by omega)
    have e4 : wrap64 (7 * 0) = 0 := wlit (by decide) (by decide) (by decide)
    have e5 : shl .i64 (b % 128) 0 = b % 128 * 1 := shl7 (b % 128) 0 (by omega) (by omega) (by decide)
    have e6 : wrap64 (n + b % 128 * 1) = n + b % 128 * 1 := w64 (by omega) (by omega)
    have e8 : wrap64 (0 + 1) = 1 := wlit (by decide) (by decide) (by decide)
    have e9 : wrap64 (at_ + 0 + 1) = at_ + 0 + 1 := w64 (by omega) (by omega)
    simp only [if_true, e1, e2, e3, e4, e5, e6, e8, e9, show (0 : Int) ≤ 0 by decide, show ¬ (0 : Int) > 0 by decide, if_false]
    by_cases hb : b > 127
    · have hh := hnext (n + b % 128 * 1) (by omega) (by omega)
      rw [rvF_more hb, rvOut_map]
      simp only [hb, if_true]
      simpa only [show at_ + 0 + 1 = at_ + 1 by omega, show (1 : Int) * 128 = 128 by decide] using hh
    · by_cases hg : n + b % 128 * 1 > 1000000000
      · rw [rvF_stop hb (Or.inr hg)]
        simp only [hb, hg, if_true, if_false]
        exact Ev.now _
      · rw [rvF_take hb (by simp) hg]
        simp only [hb, hg, if_false]
        exact Ev.now _
  · simp only [impl_ReadVar.j1, c, decide_false, Bool.false_eq_true, if_false]
    rw [List.drop_of_length_le (by rw [bytes_len]; omega)]
    exact Ev.now _
theorem impl_ReadVar_ev (s : ByteArray) (hs : s.size ≤ 140737488351232) (at_ : Int) : Ev (fun k => impl_ReadVar.f k s at_) (pReadVar s at_) := by
  simp only [impl_ReadVar.f]
  refine Ev.bind (impl_within_ev _ _ _) ?_
  by_cases h : 0 ≤ at_ ∧ at_ ≤ (s.size : Int)
  · simp only [h, and_self, decide_true, if_true]
    rw [pReadVar_in h]
    have hh := impl_ReadVar_i0 s hs at_ h.1 h.2 0 (by decide) (by decide)
    simpa only [Int.add_zero] using hh
  · simp only [h, decide_false, Bool.false_eq_true, if_false]
    rw [pReadVar_out h]
    exact Ev.now _

theorem impl_scan_number_ev (s : ByteArray) (hs : s.size ≤ 140737488351232) (a : Int) (b : Bool) : Ev (fun k => impl_scan_number.f k s a b) ((curVar s a b).1, s, (curVar s a b).2.1, (curVar s a b).2.2) := by
  simp only [impl_scan_number.f]
  refine Ev.bind (impl_ReadVar_ev s hs a) ?_
  unfold curVar
  cases b with
  | true => simp only [if_true]; exact Ev.now _
  | false =>
    by_cases h : (pReadVar s a).2.2 = true
    · simp only [Bool.false_eq_true, if_false, h, if_true]; exact Ev.now _
    · simp only [Bool.false_eq_true, if_false, h]; exact Ev.now _
theorem impl_scan_done_ev (s : ByteArray) (a : Int) (b : Bool) : Ev (fun _ => impl_scan_done.f s a b) (!b && (a == (s.size : Int)), s, a, b) := by
  apply ev_const
  cases b <;> simp [impl_scan_done.f]

theorem impl_scan_one_ev (s : ByteArray) (hs : s.size ≤ 140737488351232) (a : Int) (b : Bool) (ha : curOk s a) : Ev (fun _ => impl_scan_one.f s a b) ((curOne s a b).1, s, (curOne s a b).2.1, (curOne s a b).2.2) := by
  unfold curOk at ha
  apply ev_const
  unfold curOne
  cases b with
  | true => simp only [impl_scan_one.f, if_true]
  | false =>
    by_cases h : a ≥ (s.size : Int)
    · simp only [impl_scan_one.f, Bool.false_eq_true, if_false, h, if_true]
    · have e1 : wrap64 (a + 1) = a + 1 := w64 (by omega) (by omega)
      have e2 : wrap64 (a + 1 - 1) = a := by rw [show a + 1 - 1 = a by omega]; exact w64 (by omega) (by omega)
      have hr := bt_range s a
      have e3 : wrap64 (bt s a) = bt s a := w64 (by omega) (by omega)
      have k1 : a < (s.size : Int) := by omega
      simp only [impl_scan_one.f, Bool.false_eq_true, if_false, h, e1, e2, ha.1, k1, if_true, e3]
theorem impl_scan_rest_ev (s : ByteArray) (a : Int) (b : Bool) (ha : curOk s a) : Ev (fun _ => impl_scan_rest.f s a b) (if b = true then (⟨#[]⟩ : ByteArray) else s.extract a.toNat s.size, s, if b = true then a else (s.size : Int), b) := by
  apply ev_const
  cases b with
  | true => simp only [impl_scan_rest.f, if_true]
  | false => simp only [impl_scan_rest.f, Bool.false_eq_true, if_false, ha.1, ha.2, if_true]

theorem impl_ReadEntry_ev (s : ByteArray) (hs : s.size ≤ 1048576) : Ev (fun k => impl_ReadEntry.f k s) (entP s) := by
  have hs' : s.size ≤ 140737488351232 := by omega
  have h0 : curOk s 0 := by unfold curOk; omega
  simp only [impl_ReadEntry.f]
  unfold entP
  simp only
  obtain ⟨c, a1, b1, e1⟩ : ∃ c a1 b1, curOne s 0 false = (c, a1, b1) := ⟨_, _, _, rfl⟩
  have k1 : curOk s a1 := by have h := curOne_ok (b := false) h0; rw [e1] at h; exact h
  have q1 := impl_scan_one_ev s hs' 0 false h0
  rw [e1] at q1 ⊢
  refine Ev.bind q1 ?_
  simp only
  obtain ⟨x, a2, b2, e2⟩ : ∃ c a1' b1', curVar s a1 b1 = (c, a1', b1') := ⟨_, _, _, rfl⟩
  have k2 : curOk s a2 := by have h := curVar_ok (b := b1) k1; rw [e2] at h; exact h
  have q2 := impl_scan_number_ev s hs' a1 b1
  rw [e2] at q2 ⊢
  refine Ev.bind q2 ?_
  simp only
  obtain ⟨t, a3, b3, e3⟩ : ∃ c a1' b1', curVar s a2 b2 = (c, a1', b1') := ⟨_, _, _, rfl⟩
  have k3 : curOk s a3 := by have h := curVar_ok (b := b2) k2; rw [e3] at h; exact h
  have q3 := impl_scan_number_ev s hs' a2 b2
  rw [e3] at q3 ⊢
  refine Ev.bind q3 ?_
  simp only
  obtain ⟨kd, a4, b4, e4⟩ : ∃ c a1' b1', curOne s a3 b3 = (c, a1', b1') := ⟨_, _, _, rfl⟩
  have k4 : curOk s a4 := by have h := curOne_ok (b := b3) k3; rw [e4] at h; exact h
  have q4 := impl_scan_one_ev s hs' a3 b3 k3
  rw [e4] at q4 ⊢
  refine Ev.bind q4 ?_
  simp only
  refine Ev.bind (impl_scan_rest_ev s a4 b4 k4) ?_
  simp only
  cases b4 with
  | true =>
    simp only [if_true]
    refine Ev.bind (impl_scan_done_ev s a4 true) ?_
    simp
  | false =>
    simp only [Bool.false_eq_true, if_false]
    refine Ev.bind (impl_scan_done_ev s (s.size : Int) false) ?_
    simp only [Bool.not_false, beq_self_eq_true, Bool.and_self, if_true]
    have hd : (s.extract a4.toNat s.size).size ≤ 1048576 := by rw [size_ext]; omega
    by_cases c69 : c = 69
    · simp only [c69, if_true, true_and]
      refine Ev.bind (impl_EntryOk_ev t kd _ hd) ?_
      by_cases ho : pEntryOk t kd (s.extract a4.toNat s.size) = true
      · simp only [ho, if_true, true_and]
        refine Ev.bind (impl_within_ev _ _ _) ?_
        by_cases hi : 1 ≤ x ∧ x ≤ 1000000
        · simp only [hi, and_self, decide_true, if_true]; exact Ev.now _
        · simp only [hi, decide_false, Bool.false_eq_true, if_false]; exact Ev.now _
      · simp only [ho, if_false, false_and, Bool.false_eq_true]; exact Ev.now _
    · simp only [c69, if_false, false_and]; exact Ev.now _

theorem impl_SumMore_l1 (s : ByteArray) (i : Int) (h0 : 0 ≤ i) (h1 : i < s.size) (hs : s.size ≤ 140737488351232) (r : Int) : ∀ (m : Nat) (j x : Int), 0 ≤ j → j + m = 8 →
    Ev (fun k => impl_SumMore.l0 k (crcK m x) s (i + 1)) r → Ev (fun k => impl_SumMore.l1 k x s i j) r := by
  intro m
  induction m with
  | zero =>
    intro j x hj hm h
    apply ev_succ
    have c : ¬ j < 8 := by omega
    have e : wrap64 (i + 1) = i + 1 := w64 (by omega) (by omega)
    simp only [impl_SumMore.l1, c, if_false, e]
    exact h
  | succ m ih =>
    intro j x hj hm h
    apply ev_succ
    have c : j < 8 := by omega
    have e : wrap64 (j + 1) = j + 1 := w64 (by omega) (by omega)
    have hh := ih (j + 1) (crc1 x) (by omega) (by omega) h
    by_cases o : Int.tmod x 2 = 1
    · simp only [crc1, o, if_true] at hh
      simp only [impl_SumMore.l1, c, o, if_true, e]
      exact hh
    · simp only [crc1, o, if_false] at hh
      simp only [impl_SumMore.l1, c, o, if_true, if_false, e]
      exact hh
theorem impl_SumMore_l0 (s : ByteArray) (hs : s.size ≤ 140737488351232) : ∀ (d : Nat) (i : Int) (x : Int), 0 ≤ i → i + d = s.size →
    Ev (fun k => impl_SumMore.l0 k x s i) (crcL x ((bytesOf s).drop i.toNat)) := by
  intro d
  induction d with
  | zero =>
    intro i x h0 h
    apply ev_succ
    have c : ¬ i < (s.size : Int) := by omega
    simp only [impl_SumMore.l0, c, if_false]
    apply ev_some
    rw [List.drop_of_length_le (by rw [bytes_len]; omega)]; rfl
  | succ d ih =>
    intro i x h0 h
    apply ev_succ
    have c : i < (s.size : Int) := by omega
    simp only [impl_SumMore.l0, c, h0, if_true]
    have hh := ih (i + 1) (crcB x (bt s i)) (by omega) (by omega)
    rw [drop_bt s i h0 c]
    exact impl_SumMore_l1 s i h0 c hs _ 8 0 _ (by omega) (by omega) hh
theorem impl_SumMore_ev (x : Int) (s : ByteArray) (hs : s.size ≤ 140737488351232) : Ev (fun k => impl_SumMore.f k x s) (crcL x (bytesOf s)) := by
  simp only [impl_SumMore.f]
  exact impl_SumMore_l0 s hs s.size 0 x (by omega) (by omega)

theorem impl_SumOf_ev (s : ByteArray) (hs : s.size ≤ 140737488351232) : Ev (fun k => impl_SumOf.f k s) (sumN s) := by
  simp only [impl_SumOf.f]
  exact Ev.bind (impl_SumMore_ev _ s hs) (Ev.now _)

theorem impl_sumText_ev (s : ByteArray) (hs : s.size ≤ 140737488351232) : Ev (fun k => impl_sumText.f k s) (strOfNums (four (sumN s))) := by
  simp only [impl_sumText.f]
  exact Ev.bind (impl_SumOf_ev s hs) (Ev.now _)

theorem impl_Unframe_l0 (s : ByteArray) (hs : s.size ≤ 20000) : ∀ (d : Nat) (at_ : Int) (acc : List ByteArray), 0 ≤ at_ → at_ ≤ s.size → s.size - at_ < d → acc.length ≤ at_ →
    Ev (fun k => impl_Unframe.l0 k s acc at_) (pUnfr s d acc at_) := by
  intro d
  induction d with
  | zero => intro at_ acc h0 h1 h2; omega
  | succ d ih =>
    intro at_ acc h0 h1 h2 h3
    apply ev_succ
    have cs : (s.size : Int) ≤ 20000 := by omega
    simp only [impl_Unframe.l0, cs, if_true]
    have hstop : ¬ uOk s at_ → ∀ n m, Ev (fun k => impl_Unframe.j1 k s acc at_ n m true) (pUnfr s (d + 1) acc at_) := by
      intro hn n m
      apply ev_succ
      simp only [impl_Unframe.j1, if_true]
      rw [pUnfr_no hn]
      exact Ev.now _
    refine Ev.bind (impl_ReadVar_ev s (by omega) at_) ?_
    by_cases ho : (pReadVar s at_).2.2 = true
    · have hb := pReadVar_ok s at_ ho
      have hgo := fun (hu : uOk s at_) => ih (uNext s at_) (acc ++ [uRec s at_]) (by have := uOk_next hu; omega) (uOk_next hu).2 (by have := uOk_next hu; omega) (by have := uOk_next hu; simp; omega)
      have hyes := fun (hu : uOk s at_) => pUnfr_yes (s := s) (f := d) (acc := acc) hu
      simp only [ho, if_true]
      refine Ev.bind (impl_within_ev _ _ _) ?_
      by_cases hn : 1 ≤ (pReadVar s at_).1 ∧ (pReadVar s at_).1 ≤ 9000
      · simp only [hn, and_self, decide_true, if_true]
        have e1 : wrap64 ((pReadVar s at_).1 + 4) = (pReadVar s at_).1 + 4 := w64 (by omega) (by omega)
        have e2 : wrap64 ((s.size : Int) - (pReadVar s at_).2.1) = s.size - (pReadVar s at_).2.1 := w64 (by omega) (by omega)
        rw [e1, e2]
        by_cases hq : (pReadVar s at_).1 + 4 > s.size - (pReadVar s at_).2.1
        · simp only [hq, decide_true]
          exact hstop (fun hu => by have := hu.2.2.1; omega) _ _
        · simp only [hq, decide_false]
          apply ev_succ
          have e3 : wrap64 ((pReadVar s at_).2.1 + 4) = (pReadVar s at_).2.1 + 4 := w64 (by omega) (by omega)
          have e4 : wrap64 ((pReadVar s at_).2.1 + 4 + (pReadVar s at_).1) = (pReadVar s at_).2.1 + 4 + (pReadVar s at_).1 := w64 (by omega) (by omega)
          have k1 : 0 ≤ (pReadVar s at_).2.1 + 4 := by omega
          have k2 : (pReadVar s at_).2.1 + 4 ≤ (pReadVar s at_).2.1 + 4 + (pReadVar s at_).1 := by omega
          have k3 : (pReadVar s at_).2.1 + 4 + (pReadVar s at_).1 ≤ (s.size : Int) := by omega
          have k4 : 0 ≤ (pReadVar s at_).2.1 := by omega
          have k5 : (pReadVar s at_).2.1 ≤ (pReadVar s at_).2.1 + 4 := by omega
          have k6 : (pReadVar s at_).2.1 + 4 ≤ (s.size : Int) := by omega
          have hsz : (uRec s at_).size ≤ 140737488351232 := by unfold uRec; rw [size_ext]; omega
          simp only [impl_Unframe.j1, Bool.false_eq_true, if_false, e3, e4, k1, k2, k3, if_true]
          refine Ev.bind (impl_sumText_ev (uRec s at_) hsz) ?_
          have ha : acc.length < 8796093022208 := by omega
          simp only [k4, k5, k6, if_true, toList_iff, ha]
          by_cases hx : strOfNums (four (sumN (uRec s at_))) = s.extract (pReadVar s at_).2.1.toNat ((pReadVar s at_).2.1 + 4).toNat
          · have hu : uOk s at_ := ⟨ho, hn, by omega, hx⟩
            rw [hyes hu]
            simp only [hx, if_true]
            exact hgo hu
          · rw [pUnfr_no (fun hu => hx hu.2.2.2)]
            simp only [hx, if_false]
            exact Ev.now _
      · simp only [hn, decide_false, Bool.false_eq_true, if_false]
        exact hstop (fun hu => hn hu.2.1) _ _
    · simp only [ho, if_false]
      exact hstop (fun hu => ho hu.1) _ _
theorem impl_Unframe_ev (s : ByteArray) (hs : s.size ≤ 1048576) : Ev (fun k => impl_Unframe.f k s) (pUnframe s) := by
  simp only [impl_Unframe.f]
  by_cases h : s.size ≤ 20000
  · rw [pUnframe, if_pos h]
    exact impl_Unframe_l0 s h (s.size + 1) 0 [] (by omega) (by omega) (by omega) (by simp)
  · rw [pUnframe, if_neg h]
    apply ev_succ
    have c : ¬ (s.size : Int) ≤ 20000 := by omega
    simp only [impl_Unframe.l0, c, if_false]
    exact Ev.now _

theorem impl_VarText_l0 (n : Nat) : ∀ xs : List Int, xs.length + n < 140737488355328 → Ev (fun k => impl_VarText.l0 k (n : Int) xs) (strOfNums (xs ++ varN n), true) := by
  induction n using Nat.strongRecOn with
  | ind n ih =>
    intro xs h
    apply ev_succ
    have c2 : xs.length < 140737488355328 := by omega
    by_cases hn : n ≤ 127
    · have c1 : ¬ (n : Int) > 127 := by omega
      simp only [impl_VarText.l0, c1, c2, if_true, if_false]
      apply ev_some
      rw [varN_small hn, show (n : Int) % 256 = n by omega]
    · have c1 : (n : Int) > 127 := by omega
      simp only [impl_VarText.l0, c1, c2, if_true, var_div n (by omega), var_mod n]
      have := ih (n / 128) (by omega) (xs ++ [((n % 128 + 128 : Nat) : Int)]) (by simp; omega)
      rw [varN_big hn]
      simpa using this
theorem impl_VarText_ev (n : Int) : Ev (fun k => impl_VarText.f k n) (pVarText n) := by
  simp only [impl_VarText.f]
  refine Ev.bind (impl_within_ev _ _ _) ?_
  by_cases h : 0 ≤ n ∧ n ≤ 1000000000
  · simp only [h, and_self, decide_true, if_true]
    obtain ⟨m, rfl⟩ := Int.eq_ofNat_of_zero_le h.1
    have := impl_VarText_l0 m [] (by simp; omega)
    rw [pVarText_yes h]
    simpa [varB] using this
  · simp only [h, decide_false, Bool.false_eq_true, if_false]
    rw [pVarText_no h]
    exact Ev.now _

theorem impl_Frame_ev (s : ByteArray) (hs : s.size ≤ 140737488351232) : Ev (fun k => impl_Frame.f k s) (pFrame s) := by
  simp only [impl_Frame.f]
  refine Ev.bind (impl_within_ev _ _ _) ?_
  by_cases h : 1 ≤ s.size ∧ s.size ≤ 9000
  · have h' : 1 ≤ (s.size : Int) ∧ (s.size : Int) ≤ 9000 := by omega
    simp only [h', and_self, decide_true, if_true]
    refine Ev.bind (impl_VarText_ev _) ?_
    rw [pVarText_yes (by omega), pFrame_yes h]
    refine Ev.bind (impl_sumText_ev s hs) ?_
    have hv := (varN_len s.size).2
    have c1 : (varB s.size).size + (strOfNums (four (sumN s))).size ≤ 9223372036854775807 := by rw [varB, str_len, str_len]; simp [four]; omega
    have c2 : (varB s.size ++ strOfNums (four (sumN s))).size + s.size ≤ 9223372036854775807 := by rw [size_app, varB, str_len, str_len]; simp [four]; omega
    simp only [Int.toNat_natCast, c1, c2, if_true]
    exact Ev.now _
  · have h' : ¬ (1 ≤ (s.size : Int) ∧ (s.size : Int) ≤ 9000) := by omega
    simp only [h', decide_false, Bool.false_eq_true, if_false]
    rw [pFrame_no h]
    exact Ev.now _

theorem impl_votesOk_ev (t v : Int) : Ev (fun _ => impl_votesOk.f t v) (decide ((0 ≤ t ∧ t ≤ 100000) ∧ (0 ≤ v ∧ v ≤ 4))) := by
  simp only [impl_votesOk.f]
  refine Ev.bind (impl_isTerm_ev t) ?_
  by_cases h : 0 ≤ t ∧ t ≤ 100000
  · simp only [h, and_self, decide_true, if_true, true_and]
    exact Ev.bind (impl_within_ev _ _ _) (Ev.now _)
  · simp only [h, decide_false, Bool.false_eq_true, if_false, false_and]
    exact Ev.now _
theorem impl_twoNumbers_ev (s : ByteArray) (hs : s.size ≤ 140737488351232) (sg : Int) : Ev (fun k => impl_twoNumbers.f k s sg) (twoP s sg) := by
  have h0 : curOk s 0 := by unfold curOk; omega
  simp only [impl_twoNumbers.f]
  unfold twoP
  simp only
  obtain ⟨c, a1, b1, e1⟩ : ∃ c a1 b1, curOne s 0 false = (c, a1, b1) := ⟨_, _, _, rfl⟩
  have q1 := impl_scan_one_ev s hs 0 false h0
  rw [e1] at q1 ⊢
  refine Ev.bind q1 ?_
  simp only
  obtain ⟨x, a2, b2, e2⟩ : ∃ c a1' b1', curVar s a1 b1 = (c, a1', b1') := ⟨_, _, _, rfl⟩
  have q2 := impl_scan_number_ev s hs a1 b1
  rw [e2] at q2 ⊢
  refine Ev.bind q2 ?_
  simp only
  obtain ⟨t, a3, b3, e3⟩ : ∃ c a1' b1', curVar s a2 b2 = (c, a1', b1') := ⟨_, _, _, rfl⟩
  have q3 := impl_scan_number_ev s hs a2 b2
  rw [e3] at q3 ⊢
  refine Ev.bind q3 ?_
  simp only
  by_cases h : c = sg
  · simp only [h, if_true, decide_true, Bool.true_and]
    refine Ev.bind (impl_scan_done_ev s a3 b3) ?_
    exact Ev.now _
  · simp only [h, if_false, decide_false, Bool.false_and]
    exact Ev.now _
def jvT (p : JV × Bool) : Int × Int × Int × Int × Int × (List (S56)) × Bool := (p.1.n, p.1.t, p.1.v, p.1.a, p.1.b, p.1.l, p.2)
def jvG (p : JV × Int) : Int × Int × Int × Int × Int × (List (S56)) × Int × Bool := (p.1.n, p.1.t, p.1.v, p.1.a, p.1.b, p.1.l, p.2, true)
def jvR (p : JV × Int × Bool) : Int × Int × Int × Int × Int × (List (S56)) × Int × Bool := (p.1.n, p.1.t, p.1.v, p.1.a, p.1.b, p.1.l, p.2.1, p.2.2)
def pToldE (j : JV) (r : ByteArray) : JV × Bool :=
  if (entP r).2.2.2.2 = true then
    (if (pLogPut j.a j.b j.l (entP r).1 ⟨(entP r).2.1, (entP r).2.2.1, (entP r).2.2.2.1⟩).2.2.2 = true then (⟨j.n, j.t, j.v, (pLogPut j.a j.b j.l (entP r).1 ⟨(entP r).2.1, (entP r).2.2.1, (entP r).2.2.2.1⟩).1, (pLogPut j.a j.b j.l (entP r).1 ⟨(entP r).2.1, (entP r).2.2.1, (entP r).2.2.2.1⟩).2.1, (pLogPut j.a j.b j.l (entP r).1 ⟨(entP r).2.1, (entP r).2.2.1, (entP r).2.2.2.1⟩).2.2.1⟩, true) else (j, false))
  else (j, false)
theorem pToldE_two {j : JV} {r : ByteArray} (h : (twoP r 72).2.2 = true) : pToldE j r = (j, false) := by
  unfold pToldE
  rw [twoP_no_ent h (by decide)]
  exact if_neg Bool.false_ne_true
theorem pTold_a {j : JV} {r : ByteArray} (h : (twoP r 72).2.2 = true) (v : (0 ≤ (twoP r 72).1 ∧ (twoP r 72).1 ≤ 100000) ∧ (0 ≤ (twoP r 72).2.1 ∧ (twoP r 72).2.1 ≤ 4)) : pTold j r = (⟨j.n, (twoP r 72).1, (twoP r 72).2.1, j.a, j.b, j.l⟩, true) := by
  rw [pTold, if_pos h, if_pos v]
theorem pTold_b {j : JV} {r : ByteArray} (h : (twoP r 72).2.2 = true) (v : ¬ ((0 ≤ (twoP r 72).1 ∧ (twoP r 72).1 ≤ 100000) ∧ (0 ≤ (twoP r 72).2.1 ∧ (twoP r 72).2.1 ≤ 4))) : pTold j r = (j, false) := by
  rw [pTold, if_pos h, if_neg v]
theorem pTold_c {j : JV} {r : ByteArray} (h : ¬ (twoP r 72).2.2 = true) : pTold j r = pToldE j r := by
  rw [pTold, if_neg h]; rfl
theorem impl_told_j0_no (x6 x7 : Int) (j : JV) (r : ByteArray) (hr : r.size ≤ 1048576) (hj : j.ok) : Ev (fun k => impl_told.j0 k r x6 x7 false j.n j.t j.v j.a j.b j.l) (jvT (pToldE j r)) := by
  apply ev_succ
  simp only [impl_told.j0, Bool.false_eq_true, if_false]
  refine Ev.bind (impl_ReadEntry_ev r hr) ?_
  unfold pToldE
  by_cases h : (entP r).2.2.2.2 = true
  · simp only [h, if_true]
    refine Ev.bind (impl_LogPut_ev j.a j.b j.l (entP r).1 ⟨(entP r).2.1, (entP r).2.2.1, (entP r).2.2.2.1⟩ hj.1 hj.2 (Nat.le_trans (entP_size r) hr)) ?_
    by_cases o : (pLogPut j.a j.b j.l (entP r).1 ⟨(entP r).2.1, (entP r).2.2.1, (entP r).2.2.2.1⟩).2.2.2 = true
    · simp only [o, if_true]; exact Ev.now _
    · simp only [o, Bool.false_eq_true, if_false]; exact Ev.now _
  · simp only [h, Bool.false_eq_true, if_false]; exact Ev.now _
theorem impl_told_ev (j : JV) (r : ByteArray) (hr : r.size ≤ 1048576) (hj : j.ok) : Ev (fun k => impl_told.f k j.n j.t j.v j.a j.b j.l r) (jvT (pTold j r)) := by
  simp only [impl_told.f]
  refine Ev.bind (impl_twoNumbers_ev r (by omega) 72) ?_
  by_cases h : (twoP r 72).2.2 = true
  · simp only [h, if_true]
    refine Ev.bind (impl_votesOk_ev _ _) ?_
    by_cases v : (0 ≤ (twoP r 72).1 ∧ (twoP r 72).1 ≤ 100000) ∧ (0 ≤ (twoP r 72).2.1 ∧ (twoP r 72).2.1 ≤ 4)
    · rw [pTold_a h v, decide_eq_true v]
      apply ev_succ
      simp only [impl_told.j0, if_true]
      exact Ev.now _
    · rw [pTold_b h v, decide_eq_false v, ← pToldE_two h]
      exact impl_told_j0_no _ _ j r hr hj
  · rw [pTold_c h]
    simp only [h, Bool.false_eq_true, if_false]
    exact impl_told_j0_no _ _ j r hr hj
theorem pGo_yes {r : ByteArray} {rs : List ByteArray} {j : JV} {at_ : Int} (h : (pTold j r).2 = true) : pGo (r :: rs) j at_ = pGo rs (pTold j r).1 (at_ + ((pFrame r).1.size : Int)) := by rw [pGo, if_pos h]
theorem pGo_not {r : ByteArray} {rs : List ByteArray} {j : JV} {at_ : Int} (h : ¬ (pTold j r).2 = true) : pGo (r :: rs) j at_ = (j, at_) := by rw [pGo, if_neg h]
theorem pTold_no {j : JV} {r : ByteArray} (h : ¬ (pTold j r).2 = true) : (pTold j r).1 = j := by
  unfold pTold at h ⊢
  split
  · rename_i a
    rw [if_pos a] at h
    split
    · rename_i b; rw [if_pos b] at h; exact absurd rfl h
    · rfl
  · rename_i a
    rw [if_neg a] at h
    split
    · rename_i b
      rw [if_pos b] at h
      split
      · rename_i c; rw [if_pos c] at h; exact absurd rfl h
      · rfl
    · rfl
theorem pTold_n (j : JV) (r : ByteArray) : (pTold j r).1.n = j.n := by
  unfold pTold
  split
  · split <;> rfl
  · split
    · split <;> rfl
    · rfl
theorem impl_ReadJournal_l0 (rs : List ByteArray) (hn : rs.length ≤ 20001) (hr : ∀ r ∈ rs, r.size ≤ 9000) : ∀ (d : Nat) (i at_ : Int) (j : JV), 1 ≤ i → i + d = rs.length → 0 ≤ at_ → at_ ≤ 9009 * i → j.ok →
    Ev (fun k => impl_ReadJournal.l0 k at_ rs (rs.length : Int) i j.n j.t j.v j.a j.b j.l) (jvG (pGo (rs.drop i.toNat) j at_)) := by
  intro d
  induction d with
  | zero =>
    intro i at_ j h1 hi h0 ha hj
    apply ev_succ
    have c : ¬ i < (rs.length : Int) := by omega
    rw [List.drop_eq_nil_of_le (by omega)]
    simp only [impl_ReadJournal.l0, c, if_false]
    exact Ev.now _
  | succ d ih =>
    intro i at_ j h1 hi h0 ha hj
    apply ev_succ
    have c : i < (rs.length : Int) := by omega
    have c0 : 0 ≤ i := by omega
    have c1 : i > 0 := by omega
    have e1 : wrap64 (i + 1) = i + 1 := w64 (by omega) (by omega)
    have hm : rs.getD i.toNat ByteArray.empty ∈ rs := by
      rw [List.getD_eq_getElem?_getD, List.getElem?_eq_getElem (by omega : i.toNat < rs.length)]
      exact List.getElem_mem _
    rw [drop_get rs i c0 c ByteArray.empty]
    simp only [impl_ReadJournal.l0, c, c0, c1, if_true, rdOf]
    obtain ⟨r, hd⟩ : ∃ r, rs.getD i.toNat ByteArray.empty = r := ⟨_, rfl⟩
    rw [hd] at hm ⊢
    have hz := hr r hm
    refine Ev.bind (impl_told_ev j r (by omega) hj) ?_
    by_cases t : (pTold j r).2 = true
    · rw [pGo_yes t]
      simp only [jvT, t, if_true]
      refine Ev.bind (impl_Frame_ev r (by omega)) ?_
      have hf := pFrame_size r
      have e2 : wrap64 (at_ + ((pFrame r).1.size : Int)) = at_ + ((pFrame r).1.size : Int) := w64 (by omega) (by omega)
      simp only [e1, e2]
      exact ih (i + 1) _ (pTold j r).1 (by omega) (by omega) (by omega) (by omega) (pTold_ok j r hj (by omega))
    · rw [pGo_not t]
      simp only [jvT, t, Bool.false_eq_true, if_false, pTold_no t]
      exact Ev.now _
theorem pReadJ_nil {n : Int} {s : ByteArray} (h : (pUnframe s).1 = []) : pReadJ n s = (⟨0, 0, 0, 0, 0, []⟩, 0, false) := by rw [pReadJ, h]
theorem pReadJ_yes {n : Int} {s r : ByteArray} {rs : List ByteArray} (h : (pUnframe s).1 = r :: rs) (hn : 0 ≤ n ∧ n ≤ 999) (ht : (twoP r 66).2.2 = true) (ho : pLogOk (twoP r 66).1 (twoP r 66).2.1 [] = true) :
    pReadJ n s = ((pGo rs ⟨n, 0, 0, (twoP r 66).1, (twoP r 66).2.1, []⟩ ((pFrame r).1.size : Int)).1, (pGo rs ⟨n, 0, 0, (twoP r 66).1, (twoP r 66).2.1, []⟩ ((pFrame r).1.size : Int)).2, true) := by
  rw [pReadJ, h]
  exact if_pos ⟨hn, ht, ho⟩
theorem pReadJ_no {n : Int} {s r : ByteArray} {rs : List ByteArray} (h : (pUnframe s).1 = r :: rs) (c : ¬ ((0 ≤ n ∧ n ≤ 999) ∧ (twoP r 66).2.2 = true ∧ pLogOk (twoP r 66).1 (twoP r 66).2.1 [] = true)) : pReadJ n s = (⟨0, 0, 0, 0, 0, []⟩, 0, false) := by
  rw [pReadJ, h]
  exact if_neg c
theorem impl_ReadJournal_ev (n : Int) (s : ByteArray) (hs : s.size ≤ 1048576) : Ev (fun k => impl_ReadJournal.f k n s) (jvR (pReadJ n s)) := by
  have hu := pUnframe_recs s
  simp only [impl_ReadJournal.f]
  refine Ev.bind (impl_Unframe_ev s hs) ?_
  refine Ev.bind (impl_within_ev _ _ _) ?_
  obtain ⟨rs, e⟩ : ∃ rs, (pUnframe s).1 = rs := ⟨_, rfl⟩
  rw [e] at hu ⊢
  cases rs with
  | nil =>
    rw [pReadJ_nil e]
    by_cases h : 0 ≤ n ∧ n ≤ 999
    · rw [decide_eq_true h]
      simp only [if_true]
      apply ev_succ
      simp only [impl_ReadJournal.j0, List.length_nil, Int.natCast_zero, beq_self_eq_true, if_true]
      exact Ev.now _
    · rw [decide_eq_false h]
      simp only [Bool.false_eq_true, if_false]
      apply ev_succ
      simp only [impl_ReadJournal.j0, if_true]
      exact Ev.now _
  | cons r rs =>
    have hz := hu.2 r List.mem_cons_self
    by_cases h : 0 ≤ n ∧ n ≤ 999
    · rw [decide_eq_true h]
      simp only [if_true]
      apply ev_succ
      have l0 : ((((r :: rs).length : Nat) : Int) == 0) = false := by rw [List.length_cons]; exact beq_false_of_ne (by omega)
      have l1 : (0 : Int) < (((r :: rs).length : Nat) : Int) := by rw [List.length_cons]; omega
      have z0 : rdOf ByteArray.empty (r :: rs) 0 = r := rfl
      simp only [impl_ReadJournal.j0, l0, l1, z0, Bool.false_eq_true, if_false, if_true]
      refine Ev.bind (impl_twoNumbers_ev r (by omega) 66) ?_
      by_cases t : (twoP r 66).2.2 = true
      · simp only [t, if_true]
        refine Ev.bind (impl_LogOk_ev _ _ [] (Nat.zero_le _) (fun x hx => by cases hx)) ?_
        by_cases o : pLogOk (twoP r 66).1 (twoP r 66).2.1 [] = true
        · rw [pReadJ_yes e h t o]
          simp only [o, Bool.not_true]
          apply ev_succ
          simp only [impl_ReadJournal.j1, Bool.false_eq_true, if_false]
          apply ev_succ
          have cg : ¬ (0 : Int) > 0 := by decide
          have e1 : wrap64 ((0 : Int) + 1) = 1 := w64 (by omega) (by omega)
          have hf := pFrame_size r
          have e2 : wrap64 (0 + ((pFrame r).1.size : Int)) = ((pFrame r).1.size : Int) := by rw [Int.zero_add]; exact w64 (by omega) (by omega)
          simp only [impl_ReadJournal.l0, l1, cg, z0, e1, Int.le_refl, if_true, if_false]
          refine Ev.bind (impl_Frame_ev r (by omega)) ?_
          simp only [e2]
          have := impl_ReadJournal_l0 (r :: rs) hu.1 hu.2 rs.length 1 ((pFrame r).1.size : Int) ⟨n, 0, 0, (twoP r 66).1, (twoP r 66).2.1, []⟩ (by omega) (by rw [List.length_cons]; omega) (by omega) (by omega) ⟨Nat.zero_le _, fun x hx => by cases hx⟩
          exact this
        · rw [pReadJ_no e (fun q => o q.2.2)]
          simp only [o, Bool.not_false]
          apply ev_succ
          simp only [impl_ReadJournal.j1, if_true]
          exact Ev.now _
      · rw [pReadJ_no e (fun q => t q.2.1)]
        simp only [t, Bool.false_eq_true, if_false]
        apply ev_succ
        simp only [impl_ReadJournal.j1, if_true]
        exact Ev.now _
    · rw [decide_eq_false h, pReadJ_no e (fun q => h q.1)]
      simp only [Bool.false_eq_true, if_false]
      apply ev_succ
      simp only [impl_ReadJournal.j0, if_true]
      exact Ev.now _

theorem spec_l01Var_l0 (n : Nat) : ∀ xs : List Int, xs.length + n < 140737488355328 → Ev (fun k => spec_l01Var.l0 k (n : Int) xs) (strOfNums (xs ++ varN n)) := by
  induction n using Nat.strongRecOn with
  | ind n ih =>
    intro xs h
    apply ev_succ
    have c2 : xs.length < 140737488355328 := by omega
    by_cases hn : n ≤ 127
    · have c1 : ¬ (n : Int) > 127 := by omega
      simp only [spec_l01Var.l0, c1, c2, if_true, if_false]
      apply ev_some
      rw [varN_small hn, show (n : Int) % 256 = n by omega]
    · have c1 : (n : Int) > 127 := by omega
      simp only [spec_l01Var.l0, c1, c2, if_true, var_div n (by omega), var_mod n]
      have := ih (n / 128) (by omega) (xs ++ [((n % 128 + 128 : Nat) : Int)]) (by simp; omega)
      rw [varN_big hn]
      simpa using this
theorem spec_l01Var_ev (n : Nat) (h : n < 140737488355328) : Ev (fun k => spec_l01Var.f k (n : Int)) (varB n) := by
  simp only [spec_l01Var.f]
  have := spec_l01Var_l0 n [] (by simpa using h)
  simpa [varB] using this

theorem spec_ReadVar_i5 (s : ByteArray) (hs : s.size ≤ 140737488351232) (at_ : Int) (h0 : 0 ≤ at_) (h1 : at_ ≤ s.size) (n sc : Int) (l : List Int) : Ev (fun k => spec_ReadVar.l0 k s at_ n sc (at_ + 5)) (rvOut (at_ + 5) (rvF 0 sc n false l)) := by
  apply ev_succ
  have e1 : wrap64 (at_ + 5) = at_ + 5 := w64 (by omega) (by omega)
  have e2 : decide (at_ + 5 < at_ + 5) = false := decide_eq_false (by omega)
  simp only [spec_ReadVar.l0, e1, e2, ite_self]
  apply ev_succ
  simp only [spec_ReadVar.j1, Bool.false_eq_true, if_false]
  exact Ev.now _
theorem spec_ReadVar_i4 (s : ByteArray) (hs : s.size ≤ 140737488351232) (at_ : Int) (h0 : 0 ≤ at_) (h1 : at_ ≤ s.size) (ds : List Int) (hl : ds.length = 4) (hd : ∀ d ∈ ds, 128 ≤ d ∧ d ≤ 255) (hv : valL ds < 268435456) (hp : ds = ((bytesOf s).drop at_.toNat).take 4) :
    Ev (fun k => spec_ReadVar.l0 k s at_ (valL ds : Int) 268435456 (at_ + 4)) (rvOut (at_ + 4) (rvF 1 268435456 (valL ds : Int) false ((bytesOf s).drop (at_ + 4).toNat))) := by
  apply ev_succ
  have e1 : wrap64 (at_ + 5) = at_ + 5 := w64 (by omega) (by omega)
  have e2 : decide (at_ + 4 < at_ + 5) = true := decide_eq_true (by omega)
  by_cases c : at_ + 4 < (s.size : Int)
  · simp only [spec_ReadVar.l0, c, if_true, e1, e2]
    apply ev_succ
    rw [drop_bt s (at_ + 4) (by omega) c]
    have br := bt_range s (at_ + 4)
    have e0 : 0 ≤ at_ + 4 := by omega
    have e7 : (at_ + 4 + 1).toNat = (at_ + 5).toNat := by omega
    rw [e7]
    have k3 : at_ + 4 + 1 = at_ + 5 := by omega
    have k4 : (268435456 : Int) * 128 = 34359738368 := by decide
    simp only [spec_ReadVar.j1, c, if_true, e0, h0]
    have hp' : ds ++ [bt s (at_ + 4)] = ((bytesOf s).drop at_.toNat).take 5 := by
      have h3 : ((bytesOf s).drop at_.toNat)[4]? = some (bt s (at_ + 4)) := by
        rw [List.getElem?_drop, bt_rd, List.getD_eq_getElem?_getD, show (at_ + 4).toNat = at_.toNat + 4 by omega, List.getElem?_eq_getElem (by rw [bytes_len]; omega)]
        rfl
      rw [List.take_add_one, ← hp, h3]
      rfl
    have hvs := valL_snoc ds (bt s (at_ + 4))
    rw [hl] at hvs
    have hx : bytesOf (s.extract at_.toNat (at_ + 4 + 1).toNat) = ds ++ [bt s (at_ + 4)] := by
      rw [bytes_ext, hp', show (at_ + 4 + 1).toNat - at_.toNat = 5 by omega]
    have hnext := fun (_ _ : True) => spec_ReadVar_i5 s hs at_ h0 h1 (valL (ds ++ [bt s (at_ + 4)]) : Int) 34359738368 ((bytesOf s).drop (at_ + 5).toNat)
    have hcan := canon ds (bt s (at_ + 4)) hd
    have hext : ∀ X : ByteArray, X = s.extract at_.toNat (at_ + 4 + 1).toNat ↔ bytesOf X = ds ++ [bt s (at_ + 4)] := fun X => ⟨fun h => by rw [h, hx], fun h => bytes_inj (by rw [h, hx])⟩
    generalize bt s (at_ + 4) = b at br hnext hvs hcan hext hp' ⊢
    have hval : ((valL (ds ++ [b]) : Nat) : Int) = (valL ds : Int) + b % 128 * 268435456 := by
      rw [hvs]; omega
    have hv' : valL (ds ++ [b]) < 34359738368 := by clear hnext hext hcan hp' hd hp; omega
    have e3 : wrap64 b = b := w64 (by omega) (by omega)
    have e4 : Int.tmod b 128 = b % 128 := Int.tmod_eq_emod_of_nonneg (by omega)
    have e5 : wrap64 (b % 128 * 268435456) = b % 128 * 268435456 := w64 (by omega) (by omega)
    have e6 : wrap64 ((valL (ds ++ [b]) : Nat) : Int) = ((valL (ds ++ [b]) : Nat) : Int) := w64 (by omega) (by omega)
    have e8 : wrap64 (at_ + 4 + 1) = at_ + 4 + 1 := w64 (by omega) (by omega)
    have e9 : wrap64 (268435456 * 128) = 34359738368 := wlit (by decide) (by decide) (by decide)
    have k1 : at_ ≤ at_ + 4 + 1 := by omega
    have k2 : at_ + 4 + 1 ≤ (s.size : Int) := by omega
    simp only [if_true, e3, e4, e5, e6, e8, e9, k1, k2, ← hval]
    by_cases hb : b < 128
    · have hb' : ¬ b > 127 := not_big hb
      by_cases hg : ((valL (ds ++ [b]) : Nat) : Int) > 1000000000
      · have hbad : (valL ds : Int) + b % 128 * 268435456 > 1000000000 := by rw [← hval]; exact hg
        rw [rvF_stop hb' (Or.inr hbad)]
        simp only [hb, hg, if_true]
        exact Ev.now _
      · simp only [hb, hg, if_true, if_false]
        refine Ev.bind (spec_l01Var_ev (valL (ds ++ [b])) (lt_big hg)) ?_
        simp only [toList_iff, hext, varB, bytes_str (varN_isB _), hcan br.1 (lt_128 hb)]
        have hgood : ¬ (valL ds : Int) + b % 128 * 268435456 > 1000000000 := by rw [← hval]; exact hg
        by_cases hz : ds = [] ∨ b ≠ 0
        · have hq : ¬ (false = false ∧ b = 0) := by rcases hz with rfl | hz; exact absurd hl (by simp); exact fun h => hz h.2
          rw [rvF_take hb' hq hgood, ← hval]
          simp only [if_pos hz]
          exact Ev.now _
        · rw [rvF_stop hb' (Or.inl ⟨rfl, Classical.byContradiction fun h => hz (Or.inr h)⟩)]
          simp only [if_neg hz]
          exact Ev.now _
    · have hb' : b > 127 := is_big hb
      rw [rvF_more hb', rvOut_map, ← hval]
      simp only [hb, if_false]
      have hh := hnext trivial trivial
      simpa only [k3, k4] using hh
  · simp only [spec_ReadVar.l0, c, if_false]
    apply ev_succ
    simp only [spec_ReadVar.j1, Bool.false_eq_true, if_false]
    rw [List.drop_of_length_le (by rw [bytes_len]; omega)]
    exact Ev.now _
theorem spec_ReadVar_i3 (s : ByteArray) (hs : s.size ≤ 140737488351232) (at_ : Int) (h0 : 0 ≤ at_) (h1 : at_ ≤ s.size) (ds : List Int) (hl : ds.length = 3) (hd : ∀ d ∈ ds, 128 ≤ d ∧ d ≤ 255) (hv : valL ds < 2097152) (hp : ds = ((bytesOf s).drop at_.toNat).take 3) :
    Ev (fun k => spec_ReadVar.l0 k s at_ (valL ds : Int) 2097152 (at_ + 3)) (rvOut (at_ + 3) (rvF 2 2097152 (valL ds : Int) false ((bytesOf s).drop (at_ + 3).toNat))) := by
  apply ev_succ
  have e1 : wrap64 (at_ + 5) = at_ + 5 := w64 (by omega) (by omega)
  have e2 : decide (at_ + 3 < at_ + 5) = true := decide_eq_true (by omega)
  by_cases c : at_ + 3 < (s.size : Int)
  · simp only [spec_ReadVar.l0, c, if_true, e1, e2]
    apply ev_succ
    rw [drop_bt s (at_ + 3) (by omega) c]
    have br := bt_range s (at_ + 3)
    have e0 : 0 ≤ at_ + 3 := by omega
    have e7 : (at_ + 3 + 1).toNat = (at_ + 4).toNat := by omega
    rw [e7]
    have k3 : at_ + 3 + 1 = at_ + 4 := by omega
    have k4 : (2097152 : Int) * 128 = 268435456 := by decide
    simp only [spec_ReadVar.j1, c, if_true, e0, h0]
    have hp' : ds ++ [bt s (at_ + 3)] = ((bytesOf s).drop at_.toNat).take 4 := by
      have h3 : ((bytesOf s).drop at_.toNat)[3]? = some (bt s (at_ + 3)) := by
        rw [List.getElem?_drop, bt_rd, List.getD_eq_getElem?_getD, show (at_ + 3).toNat = at_.toNat + 3 by omega, List.getElem?_eq_getElem (by rw [bytes_len]; omega)]
        rfl
      rw [List.take_add_one, ← hp, h3]
      rfl
    have hvs := valL_snoc ds (bt s (at_ + 3))
    rw [hl] at hvs
    have hx : bytesOf (s.extract at_.toNat (at_ + 3 + 1).toNat) = ds ++ [bt s (at_ + 3)] := by
      rw [bytes_ext, hp', show (at_ + 3 + 1).toNat - at_.toNat = 4 by omega]
    have hnext := fun hv' hd' => spec_ReadVar_i4 s hs at_ h0 h1 (ds ++ [bt s (at_ + 3)]) (by simp [hl]) hd' hv' hp'
    have hcan := canon ds (bt s (at_ + 3)) hd
    have hext : ∀ X : ByteArray, X = s.extract at_.toNat (at_ + 3 + 1).toNat ↔ bytesOf X = ds ++ [bt s (at_ + 3)] := fun X => ⟨fun h => by rw [h, hx], fun h => bytes_inj (by rw [h, hx])⟩
    generalize bt s (at_ + 3) = b at br hnext hvs hcan hext hp' ⊢
    have hval : ((valL (ds ++ [b]) : Nat) : Int) = (valL ds : Int) + b % 128 * 2097152 := by
      rw [hvs]; omega
    have hv' : valL (ds ++ [b]) < 268435456 := by clear hnext hext hcan hp' hd hp; omega
    have e3 : wrap64 b = b := w64 (by omega) (by omega)
    have e4 : Int.tmod b 128 = b % 128 := Int.tmod_eq_emod_of_nonneg (by omega)
    have e5 : wrap64 (b % 128 * 2097152) = b % 128 * 2097152 := w64 (by omega) (by omega)
    have e6 : wrap64 ((valL (ds ++ [b]) : Nat) : Int) = ((valL (ds ++ [b]) : Nat) : Int) := w64 (by omega) (by omega)
    have e8 : wrap64 (at_ + 3 + 1) = at_ + 3 + 1 := w64 (by omega) (by omega)
    have e9 : wrap64 (2097152 * 128) = 268435456 := wlit (by decide) (by decide) (by decide)
    have k1 : at_ ≤ at_ + 3 + 1 := by omega
    have k2 : at_ + 3 + 1 ≤ (s.size : Int) := by omega
    simp only [if_true, e3, e4, e5, e6, e8, e9, k1, k2, ← hval]
    by_cases hb : b < 128
    · have hb' : ¬ b > 127 := not_big hb
      by_cases hg : ((valL (ds ++ [b]) : Nat) : Int) > 1000000000
      · have hbad : (valL ds : Int) + b % 128 * 2097152 > 1000000000 := by rw [← hval]; exact hg
        rw [rvF_stop hb' (Or.inr hbad)]
        simp only [hb, hg, if_true]
        exact Ev.now _
      · simp only [hb, hg, if_true, if_false]
        refine Ev.bind (spec_l01Var_ev (valL (ds ++ [b])) (lt_big hg)) ?_
        simp only [toList_iff, hext, varB, bytes_str (varN_isB _), hcan br.1 (lt_128 hb)]
        have hgood : ¬ (valL ds : Int) + b % 128 * 2097152 > 1000000000 := by rw [← hval]; exact hg
        by_cases hz : ds = [] ∨ b ≠ 0
        · have hq : ¬ (false = false ∧ b = 0) := by rcases hz with rfl | hz; exact absurd hl (by simp); exact fun h => hz h.2
          rw [rvF_take hb' hq hgood, ← hval]
          simp only [if_pos hz]
          exact Ev.now _
        · rw [rvF_stop hb' (Or.inl ⟨rfl, Classical.byContradiction fun h => hz (Or.inr h)⟩)]
          simp only [if_neg hz]
          exact Ev.now _
    · have hb' : b > 127 := is_big hb
      rw [rvF_more hb', rvOut_map, ← hval]
      simp only [hb, if_false]
      have hh := hnext hv' (big_app hd hb br.2)
      simpa only [k3, k4] using hh
  · simp only [spec_ReadVar.l0, c, if_false]
    apply ev_succ
    simp only [spec_ReadVar.j1, Bool.false_eq_true, if_false]
    rw [List.drop_of_length_le (by rw [bytes_len]; omega)]
    exact Ev.now _
theorem spec_ReadVar_i2 (s : ByteArray) (hs : s.size ≤ 140737488351232) (at_ : Int) (h0 : 0 ≤ at_) (h1 : at_ ≤ s.size) (ds : List Int) (hl : ds.length = 2) (hd : ∀ d ∈ ds, 128 ≤ d ∧ d ≤ 255) (hv : valL ds < 16384) (hp : ds = ((bytesOf s).drop at_.toNat).take 2) :
    Ev (fun k => spec_ReadVar.l0 k s at_ (valL ds : Int) 16384 (at_ + 2)) (rvOut (at_ + 2) (rvF 3 16384 (valL ds : Int) false ((bytesOf s).drop (at_ + 2).toNat))) := by
  apply ev_succ
  have e1 : wrap64 (at_ + 5) = at_ + 5 := w64 (by omega) (by omega)
  have e2 : decide (at_ + 2 < at_ + 5) = true := decide_eq_true (by omega)
  by_cases c : at_ + 2 < (s.size : Int)
  · simp only [spec_ReadVar.l0, c, if_true, e1, e2]
    apply ev_succ
    rw [drop_bt s (at_ + 2) (by omega) c]
    have br := bt_range s (at_ + 2)
    have e0 : 0 ≤ at_ + 2 := by omega
    have e7 : (at_ + 2 + 1).toNat = (at_ + 3).toNat := by omega
    rw [e7]
    have k3 : at_ + 2 + 1 = at_ + 3 := by omega
    have k4 : (16384 : Int) * 128 = 2097152 := by decide
    simp only [spec_ReadVar.j1, c, if_true, e0, h0]
    have hp' : ds ++ [bt s (at_ + 2)] = ((bytesOf s).drop at_.toNat).take 3 := by
      have h3 : ((bytesOf s).drop at_.toNat)[2]? = some (bt s (at_ + 2)) := by
        rw [List.getElem?_drop, bt_rd, List.getD_eq_getElem?_getD, show (at_ + 2).toNat = at_.toNat + 2 by omega, List.getElem?_eq_getElem (by rw [bytes_len]; omega)]
        rfl
      rw [List.take_add_one, ← hp, h3]
      rfl
    have hvs := valL_snoc ds (bt s (at_ + 2))
    rw [hl] at hvs
    have hx : bytesOf (s.extract at_.toNat (at_ + 2 + 1).toNat) = ds ++ [bt s (at_ + 2)] := by
      rw [bytes_ext, hp', show (at_ + 2 + 1).toNat - at_.toNat = 3 by omega]
    have hnext := fun hv' hd' => spec_ReadVar_i3 s hs at_ h0 h1 (ds ++ [bt s (at_ + 2)]) (by simp [hl]) hd' hv' hp'
    have hcan := canon ds (bt s (at_ + 2)) hd
    have hext : ∀ X : ByteArray, X = s.extract at_.toNat (at_ + 2 + 1).toNat ↔ bytesOf X = ds ++ [bt s (at_ + 2)] := fun X => ⟨fun h => by rw [h, hx], fun h => bytes_inj (by rw [h, hx])⟩
    generalize bt s (at_ + 2) = b at br hnext hvs hcan hext hp' ⊢
    have hval : ((valL (ds ++ [b]) : Nat) : Int) = (valL ds : Int) + b % 128 * 16384 := by
      rw [hvs]; omega
    have hv' : valL (ds ++ [b]) < 2097152 := by clear hnext hext hcan hp' hd hp; omega
    have e3 : wrap64 b = b := w64 (by omega) (by omega)
    have e4 : Int.tmod b 128 = b % 128 := Int.tmod_eq_emod_of_nonneg (by omega)
    have e5 : wrap64 (b % 128 * 16384) = b % 128 * 16384 := w64 (by omega) (by omega)
    have e6 : wrap64 ((valL (ds ++ [b]) : Nat) : Int) = ((valL (ds ++ [b]) : Nat) : Int) := w64 (by omega) (by omega)
    have e8 : wrap64 (at_ + 2 + 1) = at_ + 2 + 1 := w64 (by omega) (by omega)
    have e9 : wrap64 (16384 * 128) = 2097152 := wlit (by decide) (by decide) (by decide)
    have k1 : at_ ≤ at_ + 2 + 1 := by omega
    have k2 : at_ + 2 + 1 ≤ (s.size : Int) := by omega
    simp only [if_true, e3, e4, e5, e6, e8, e9, k1, k2, ← hval]
    by_cases hb : b < 128
    · have hb' : ¬ b > 127 := not_big hb
      by_cases hg : ((valL (ds ++ [b]) : Nat) : Int) > 1000000000
      · have hbad : (valL ds : Int) + b % 128 * 16384 > 1000000000 := by rw [← hval]; exact hg
        rw [rvF_stop hb' (Or.inr hbad)]
        simp only [hb, hg, if_true]
        exact Ev.now _
      · simp only [hb, hg, if_true, if_false]
        refine Ev.bind (spec_l01Var_ev (valL (ds ++ [b])) (lt_big hg)) ?_
        simp only [toList_iff, hext, varB, bytes_str (varN_isB _), hcan br.1 (lt_128 hb)]
        have hgood : ¬ (valL ds : Int) + b % 128 * 16384 > 1000000000 := by rw [← hval]; exact hg
        by_cases hz : ds = [] ∨ b ≠ 0
        · have hq : ¬ (false = false ∧ b = 0) := by rcases hz with rfl | hz; exact absurd hl (by simp); exact fun h => hz h.2
          rw [rvF_take hb' hq hgood, ← hval]
          simp only [if_pos hz]
          exact Ev.now _
        · rw [rvF_stop hb' (Or.inl ⟨rfl, Classical.byContradiction fun h => hz (Or.inr h)⟩)]
          simp only [if_neg hz]
          exact Ev.now _
    · have hb' : b > 127 := is_big hb
      rw [rvF_more hb', rvOut_map, ← hval]
      simp only [hb, if_false]
      have hh := hnext hv' (big_app hd hb br.2)
      simpa only [k3, k4] using hh
  · simp only [spec_ReadVar.l0, c, if_false]
    apply ev_succ
    simp only [spec_ReadVar.j1, Bool.false_eq_true, if_false]
    rw [List.drop_of_length_le (by rw [bytes_len]; omega)]
    exact Ev.now _
theorem spec_ReadVar_i1 (s : ByteArray) (hs : s.size ≤ 140737488351232) (at_ : Int) (h0 : 0 ≤ at_) (h1 : at_ ≤ s.size) (ds : List Int) (hl : ds.length = 1) (hd : ∀ d ∈ ds, 128 ≤ d ∧ d ≤ 255) (hv : valL ds < 128) (hp : ds = ((bytesOf s).drop at_.toNat).take 1) :
    Ev (fun k => spec_ReadVar.l0 k s at_ (valL ds : Int) 128 (at_ + 1)) (rvOut (at_ + 1) (rvF 4 128 (valL ds : Int) false ((bytesOf s).drop (at_ + 1).toNat))) := by
  apply ev_succ
  have e1 : wrap64 (at_ + 5) = at_ + 5 := w64 (by omega) (by omega)
  have e2 : decide (at_ + 1 < at_ + 5) = true := decide_eq_true (by omega)
  by_cases c : at_ + 1 < (s.size : Int)
  · simp only [spec_ReadVar.l0, c, if_true, e1, e2]
    apply ev_succ
    rw [drop_bt s (at_ + 1) (by omega) c]
    have br := bt_range s (at_ + 1)
    have e0 : 0 ≤ at_ + 1 := by omega
    have e7 : (at_ + 1 + 1).toNat = (at_ + 2).toNat := by omega
    rw [e7]
    have k3 : at_ + 1 + 1 = at_ + 2 := by omega
    have k4 : (128 : Int) * 128 = 16384 := by decide
    simp only [spec_ReadVar.j1, c, if_true, e0, h0]
    have hp' : ds ++ [bt s (at_ + 1)] = ((bytesOf s).drop at_.toNat).take 2 := by
      have h3 : ((bytesOf s).drop at_.toNat)[1]? = some (bt s (at_ + 1)) := by
        rw [List.getElem?_drop, bt_rd, List.getD_eq_getElem?_getD, show (at_ + 1).toNat = at_.toNat + 1 by omega, List.getElem?_eq_getElem (by rw [bytes_len]; omega)]
        rfl
      rw [List.take_add_one, ← hp, h3]
      rfl
    have hvs := valL_snoc ds (bt s (at_ + 1))
    rw [hl] at hvs
    have hx : bytesOf (s.extract at_.toNat (at_ + 1 + 1).toNat) = ds ++ [bt s (at_ + 1)] := by
      rw [bytes_ext, hp', show (at_ + 1 + 1).toNat - at_.toNat = 2 by omega]
    have hnext := fun hv' hd' => spec_ReadVar_i2 s hs at_ h0 h1 (ds ++ [bt s (at_ + 1)]) (by simp [hl]) hd' hv' hp'
    have hcan := canon ds (bt s (at_ + 1)) hd
    have hext : ∀ X : ByteArray, X = s.extract at_.toNat (at_ + 1 + 1).toNat ↔ bytesOf X = ds ++ [bt s (at_ + 1)] := fun X => ⟨fun h => by rw [h, hx], fun h => bytes_inj (by rw [h, hx])⟩
    generalize bt s (at_ + 1) = b at br hnext hvs hcan hext hp' ⊢
    have hval : ((valL (ds ++ [b]) : Nat) : Int) = (valL ds : Int) + b % 128 * 128 := by
      rw [hvs]; omega
    have hv' : valL (ds ++ [b]) < 16384 := by clear hnext hext hcan hp' hd hp; omega
    have e3 : wrap64 b = b := w64 (by omega) (by omega)
    have e4 : Int.tmod b 128 = b % 128 := Int.tmod_eq_emod_of_nonneg (by omega)
    have e5 : wrap64 (b % 128 * 128) = b % 128 * 128 := w64 (by omega) (by omega)
    have e6 : wrap64 ((valL (ds ++ [b]) : Nat) : Int) = ((valL (ds ++ [b]) : Nat) : Int) := w64 (by omega) (by omega)
    have e8 : wrap64 (at_ + 1 + 1) = at_ + 1 + 1 := w64 (by omega) (by omega)
    have e9 : wrap64 (128 * 128) = 16384 := wlit (by decide) (by decide) (by decide)
    have k1 : at_ ≤ at_ + 1 + 1 := by omega
    have k2 : at_ + 1 + 1 ≤ (s.size : Int) := by omega
    simp only [if_true, e3, e4, e5, e6, e8, e9, k1, k2, ← hval]
    by_cases hb : b < 128
    · have hb' : ¬ b > 127 := not_big hb
      by_cases hg : ((valL (ds ++ [b]) : Nat) : Int) > 1000000000
      · have hbad : (valL ds : Int) + b % 128 * 128 > 1000000000 := by rw [← hval]; exact hg
        rw [rvF_stop hb' (Or.inr hbad)]
        simp only [hb, hg, if_true]
        exact Ev.now _
      · simp only [hb, hg, if_true, if_false]
        refine Ev.bind (spec_l01Var_ev (valL (ds ++ [b])) (lt_big hg)) ?_
        simp only [toList_iff, hext, varB, bytes_str (varN_isB _), hcan br.1 (lt_128 hb)]
        have hgood : ¬ (valL ds : Int) + b % 128 * 128 > 1000000000 := by rw [← hval]; exact hg
        by_cases hz : ds = [] ∨ b ≠ 0
        · have hq : ¬ (false = false ∧ b = 0) := by rcases hz with rfl | hz; exact absurd hl (by simp); exact fun h => hz h.2
          rw [rvF_take hb' hq hgood, ← hval]
          simp only [if_pos hz]
          exact Ev.now _
        · rw [rvF_stop hb' (Or.inl ⟨rfl, Classical.byContradiction fun h => hz (Or.inr h)⟩)]
          simp only [if_neg hz]
          exact Ev.now _
    · have hb' : b > 127 := is_big hb
      rw [rvF_more hb', rvOut_map, ← hval]
      simp only [hb, if_false]
      have hh := hnext hv' (big_app hd hb br.2)
      simpa only [k3, k4] using hh
  · simp only [spec_ReadVar.l0, c, if_false]
    apply ev_succ
    simp only [spec_ReadVar.j1, Bool.false_eq_true, if_false]
    rw [List.drop_of_length_le (by rw [bytes_len]; omega)]
    exact Ev.now _
theorem spec_ReadVar_i0 (s : ByteArray) (hs : s.size ≤ 140737488351232) (at_ : Int) (h0 : 0 ≤ at_) (h1 : at_ ≤ s.size) (ds : List Int) (hl : ds.length = 0) (hd : ∀ d ∈ ds, 128 ≤ d ∧ d ≤ 255) (hv : valL ds < 1) (hp : ds = ((bytesOf s).drop at_.toNat).take 0) :
    Ev (fun k => spec_ReadVar.l0 k s at_ (valL ds : Int) 1 (at_ + 0)) (rvOut (at_ + 0) (rvF 5 1 (valL ds : Int) true ((bytesOf s).drop (at_ + 0).toNat))) := by
  apply ev_succ
  have e1 : wrap64 (at_ + 5) = at_ + 5 := w64 (by omega) (by omega)
  have e2 : decide (at_ + 0 < at_ + 5) = true := decide_eq_true (by omega)
  by_cases c : at_ + 0 < (s.size : Int)
  · simp only [spec_ReadVar.l0, c, if_true, e1, e2]
    apply ev_succ
    rw [drop_bt s (at_ + 0) (by omega) c]
    have br := bt_range s (at_ + 0)
    have e0 : 0 ≤ at_ + 0 := by omega
    have e7 : (at_ + 0 + 1).toNat = (at_ + 1).toNat := by omega
    rw [e7]
    have k3 : at_ + 0 + 1 = at_ + 1 := by omega
    have k4 : (1 : Int) * 128 = 128 := by decide
    simp only [spec_ReadVar.j1, c, if_true, e0, h0]
    have hp' : ds ++ [bt s (at_ + 0)] = ((bytesOf s).drop at_.toNat).take 1 := by
      have h3 : ((bytesOf s).drop at_.toNat)[0]? = some (bt s (at_ + 0)) := by
        rw [List.getElem?_drop, bt_rd, List.getD_eq_getElem?_getD, show (at_ + 0).toNat = at_.toNat + 0 by omega, List.getElem?_eq_getElem (by rw [bytes_len]; omega)]
        rfl
      rw [List.take_add_one, ← hp, h3]
      rfl
    have hvs := valL_snoc ds (bt s (at_ + 0))
    rw [hl] at hvs
    have hx : bytesOf (s.extract at_.toNat (at_ + 0 + 1).toNat) = ds ++ [bt s (at_ + 0)] := by
      rw [bytes_ext, hp', show (at_ + 0 + 1).toNat - at_.toNat = 1 by omega]
    have hnext := fun hv' hd' => spec_ReadVar_i1 s hs at_ h0 h1 (ds ++ [bt s (at_ + 0)]) (by simp [hl]) hd' hv' hp'
    have hcan := canon ds (bt s (at_ + 0)) hd
    have hext : ∀ X : ByteArray, X = s.extract at_.toNat (at_ + 0 + 1).toNat ↔ bytesOf X = ds ++ [bt s (at_ + 0)] := fun X => ⟨fun h => by rw [h, hx], fun h => bytes_inj (by rw [h, hx])⟩
    generalize bt s (at_ + 0) = b at br hnext hvs hcan hext hp' ⊢
    have hval : ((valL (ds ++ [b]) : Nat) : Int) = (valL ds : Int) + b % 128 * 1 := by
      rw [hvs]; omega
    have hv' : valL (ds ++ [b]) < 128 := by clear hnext hext hcan hp' hd hp; omega
    have e3 : wrap64 b = b := w64 (by omega) (by omega)
    have e4 : Int.tmod b 128 = b % 128 := Int.tmod_eq_emod_of_nonneg (by omega)
    have e5 : wrap64 (b % 128 * 1) = b % 128 * 1 := w64 (by omega) (by omega)
    have e6 : wrap64 ((valL (ds ++ [b]) : Nat) : Int) = ((valL (ds ++ [b]) : Nat) : Int) := w64 (by omega) (by omega)
    have e8 : wrap64 (at_ + 0 + 1) = at_ + 0 + 1 := w64 (by omega) (by omega)
    have e9 : wrap64 (1 * 128) = 128 := wlit (by decide) (by decide) (by decide)
    have k1 : at_ ≤ at_ + 0 + 1 := by omega
    have k2 : at_ + 0 + 1 ≤ (s.size : Int) := by omega
    simp only [if_true, e3, e4, e5, e6, e8, e9, k1, k2, ← hval]
    by_cases hb : b < 128
    · have hb' : ¬ b > 127 := not_big hb
      by_cases hg : ((valL (ds ++ [b]) : Nat) : Int) > 1000000000
      · have hbad : (valL ds : Int) + b % 128 * 1 > 1000000000 := by rw [← hval]; exact hg
        rw [rvF_stop hb' (Or.inr hbad)]
        simp only [hb, hg, if_true]
        exact Ev.now _
      · simp only [hb, hg, if_true, if_false]
        refine Ev.bind (spec_l01Var_ev (valL (ds ++ [b])) (lt_big hg)) ?_
        simp only [toList_iff, hext, varB, bytes_str (varN_isB _), hcan br.1 (lt_128 hb)]
        have hgood : ¬ (valL ds : Int) + b % 128 * 1 > 1000000000 := by rw [← hval]; exact hg
        by_cases hz : ds = [] ∨ b ≠ 0
        · have hq : ¬ (true = false ∧ b = 0) := by simp
          rw [rvF_take hb' hq hgood, ← hval]
          simp only [if_pos hz]
          exact Ev.now _
        · exact absurd (Or.inl (List.eq_nil_of_length_eq_zero hl)) hz

    · have hb' : b > 127 := is_big hb
      rw [rvF_more hb', rvOut_map, ← hval]
      simp only [hb, if_false]
      have hh := hnext hv' (big_app hd hb br.2)
      simpa only [k3, k4] using hh
  · simp only [spec_ReadVar.l0, c, if_false]
    apply ev_succ
    simp only [spec_ReadVar.j1, Bool.false_eq_true, if_false]
    rw [List.drop_of_length_le (by rw [bytes_len]; omega)]
    exact Ev.now _
theorem spec_ReadVar_ev (s : ByteArray) (hs : s.size ≤ 140737488351232) (at_ : Int) : Ev (fun k => spec_ReadVar.f k s at_) (pReadVar s at_) := by
  simp only [spec_ReadVar.f]
  refine Ev.bind (spec_l01In_ev _ _ _) ?_
  by_cases h : 0 ≤ at_ ∧ at_ ≤ (s.size : Int)
  · simp only [h, and_self, decide_true, if_true]
    rw [pReadVar_in h]
    have hh := spec_ReadVar_i0 s hs at_ h.1 h.2 [] rfl (by simp) (by decide) (by simp)
    simpa only [Int.add_zero, valL, Int.natCast_zero] using hh
  · simp only [h, decide_false, Bool.false_eq_true, if_false]
    rw [pReadVar_out h]
    exact Ev.now _

theorem spec_l05Var_ev (s : ByteArray) (hs : s.size ≤ 140737488351232) (a : Int) (b : Bool) : Ev (fun k => spec_l05Var.f k s a b) ((curVar s a b).1, s, (curVar s a b).2.1, (curVar s a b).2.2) := by
  simp only [spec_l05Var.f]
  refine Ev.bind (spec_ReadVar_ev s hs a) ?_
  unfold curVar
  cases b with
  | true => simp only [if_true]; exact Ev.now _
  | false =>
    by_cases h : (pReadVar s a).2.2 = true
    · simp only [Bool.false_eq_true, if_false, h, if_true]; exact Ev.now _
    · simp only [Bool.false_eq_true, if_false, h]; exact Ev.now _
theorem spec_l05Take_ev (s : ByteArray) (hs : s.size ≤ 140737488351232) (a : Int) (b : Bool) (n : Int) (ha : curOk s a) (hn : 0 ≤ n ∧ n ≤ 1000000000) : Ev (fun _ => spec_l05Take.f s a b n) ((curTake s a b n).1, s, (curTake s a b n).2.1, (curTake s a b n).2.2) := by
  unfold curOk at ha
  apply ev_const
  unfold curTake
  cases b with
  | true => simp only [spec_l05Take.f, if_true]
  | false =>
    have e0 : wrap64 ((s.size : Int) - a) = s.size - a := w64 (by omega) (by omega)
    by_cases h : n > (s.size : Int) - a
    · simp only [spec_l05Take.f, Bool.false_eq_true, if_false, e0, h, if_true]
    · have e1 : wrap64 (a + n) = a + n := w64 (by omega) (by omega)
      have e2 : wrap64 (a + n - n) = a := by rw [show a + n - n = a by omega]; exact w64 (by omega) (by omega)
      have k1 : a ≤ a + n := by omega
      have k2 : a + n ≤ (s.size : Int) := by omega
      simp only [spec_l05Take.f, Bool.false_eq_true, if_false, e0, h, e1, e2, ha.1, k1, k2, if_true]

theorem spec_EntryText_ev (idx t kd : Int) (s : ByteArray) (hs : s.size ≤ 1048576) : Ev (fun k => spec_EntryText.f k idx t kd s) (pEntryText idx t kd s) := by
  simp only [spec_EntryText.f]
  refine Ev.bind (spec_EntryOk_ev t kd s hs) ?_
  have hno : ¬ (pEntryOk t kd s = true ∧ 1 ≤ idx ∧ idx ≤ 1000000) → Ev (fun k => spec_EntryText.j0 k idx true t kd s) (pEntryText idx t kd s) := by
    intro hn
    apply ev_succ
    simp only [spec_EntryText.j0, if_true]
    rw [pEntryText_no hn]
    exact Ev.now _
  by_cases ho : pEntryOk t kd s = true
  · simp only [ho, if_true]
    refine Ev.bind (spec_l01In_ev _ _ _) ?_
    by_cases hi : 1 ≤ idx ∧ idx ≤ 1000000
    · simp only [hi, and_self, decide_true, Bool.not_true]
      have ht := pEntryOk_term ho
      rw [pEntryText_yes ⟨ho, hi⟩]
      obtain ⟨n, rfl⟩ := Int.eq_ofNat_of_zero_le (show 0 ≤ idx by omega)
      obtain ⟨m, rfl⟩ := Int.eq_ofNat_of_zero_le ht.1
      apply ev_succ
      simp only [spec_EntryText.j0, Bool.false_eq_true, if_false]
      have h5 := varB_size5 (n := n) (by omega)
      have h6 := varB_size5 (n := m) (by omega)
      have h1 : (⟨#[69]⟩ : ByteArray).size = 1 := rfl
      refine Ev.bind (spec_l01Var_ev n (by omega)) ?_
      have c1 : 1 + (varB n).size ≤ 9223372036854775807 := by omega
      simp only [c1, if_true]
      refine Ev.bind (spec_l01Var_ev m (by omega)) ?_
      have c2 : ((⟨#[69]⟩ : ByteArray) ++ varB n).size + (varB m).size ≤ 9223372036854775807 := by rw [size_app, h1]; omega
      have c3 : (((⟨#[69]⟩ : ByteArray) ++ varB n) ++ varB m).size + (strOfNums [kd % 256]).size ≤ 9223372036854775807 := by rw [size_app, size_app, one_size, h1]; omega
      have c4 : ((((⟨#[69]⟩ : ByteArray) ++ varB n) ++ varB m) ++ strOfNums [kd % 256]).size + s.size ≤ 9223372036854775807 := by rw [size_app, size_app, size_app, one_size, h1]; omega
      simp only [Option.bind_some, c2, c3, c4, if_true]
      apply ev_some
      rfl
    · simp only [hi, decide_false, Bool.not_false]
      exact hno (fun h => hi h.2)
  · simp only [ho, if_false]
    exact hno (fun h => ho h.1)

theorem spec_ReadEntry_ev (s : ByteArray) (hs : s.size ≤ 1048576) : Ev (fun k => spec_ReadEntry.f k s) (entP s) := by
  have hs' : s.size ≤ 140737488351232 := by omega
  have h0 : curOk s 0 := by unfold curOk; omega
  simp only [spec_ReadEntry.f]
  -- where something does not stand there
  have bad : ∀ (a : Int), curOk s a → Ev (fun k => (spec_l05Var.f k s a true).bind fun p2 => (spec_l05Var.f k p2.2.1 p2.2.2.1 p2.2.2.2).bind fun p3 => (spec_l05Take.f p3.2.1 p3.2.2.1 p3.2.2.2 1).bind fun p4 =>
      (if p4.2.2.2 = true then some (0, 0, 0, (⟨#[]⟩ : ByteArray), false) else (if (0 : Int) < (p4.1.size : Int) then (if 0 ≤ p4.2.2.1 then (if p4.2.2.1 ≤ (s.size : Int) then ((spec_EntryText.f k p2.1 p3.1 (bt p4.1 0) (s.extract (p4.2.2.1 : Int).toNat s.size)).bind fun q1 =>
        (if q1.2 = true then (if q1.1.toList = s.toList then some (p2.1, p3.1, bt p4.1 0, s.extract (p4.2.2.1 : Int).toNat s.size, true) else some (0, 0, 0, (⟨#[]⟩ : ByteArray), false)) else some (0, 0, 0, (⟨#[]⟩ : ByteArray), false))) else none) else none) else none))) (0, 0, 0, (⟨#[]⟩ : ByteArray), false) := by
    intro a ka
    have q2 := spec_l05Var_ev s hs' a true
    rw [curVar_bad] at q2
    refine Ev.bind q2 ?_
    simp only
    refine Ev.bind q2 ?_
    simp only
    have q4 := spec_l05Take_ev s hs' a true 1 ka (by decide)
    rw [curTake_bad] at q4
    refine Ev.bind q4 ?_
    simp only [if_true]
    exact Ev.now _
  unfold entP
  simp only
  have q1 := spec_l05Take_ev s hs' 0 false 1 h0 (by decide)
  rcases curTake1_cases s 0 with ⟨g1, e1⟩ | ⟨g1, e1⟩
  · have f1 : curOne s 0 false = (0, 0, true) := by
      rcases curOne_cases s 0 with ⟨_, h⟩ | ⟨h, _⟩
      · exact h
      · omega
    rw [e1] at q1
    rw [f1]
    simp only [curVar_bad, curOne_bad, if_true]
    refine Ev.bind q1 ?_
    simp only
    exact bad 0 h0
  have f1 : curOne s 0 false = (bt s 0, 0 + 1, false) := by
    rcases curOne_cases s 0 with ⟨h, _⟩ | ⟨_, h⟩
    · omega
    · exact h
  rw [e1] at q1
  rw [f1]
  refine Ev.bind q1 ?_
  simp only
  have k1 : curOk s (0 + 1) := by unfold curOk; omega
  have q2 := spec_l05Var_ev s hs' (0 + 1) false
  rcases curVar_cases s (0 + 1) with e2 | ⟨o2, e2⟩
  · have hb := bad (0 + 1) k1
    rw [e2] at q2
    rw [e2]
    simp only [curVar_bad, curOne_bad, if_true]
    refine Ev.bind q2 ?_
    simp only
    have q3 := spec_l05Var_ev s hs' (0 + 1) true
    rw [curVar_bad] at q3
    refine Ev.bind q3 ?_
    simp only
    have q4 := spec_l05Take_ev s hs' (0 + 1) true 1 k1 (by decide)
    rw [curTake_bad] at q4
    refine Ev.bind q4 ?_
    simp only [if_true]
    exact Ev.now _
  have k2 : curOk s (pReadVar s (0 + 1)).2.1 := by have h := curVar_ok (b := false) k1; rw [e2] at h; exact h
  rw [e2] at q2
  rw [e2]
  refine Ev.bind q2 ?_
  simp only
  have q3 := spec_l05Var_ev s hs' (pReadVar s (0 + 1)).2.1 false
  rcases curVar_cases s (pReadVar s (0 + 1)).2.1 with e3 | ⟨o3, e3⟩
  · rw [e3] at q3
    rw [e3]
    simp only [curOne_bad, if_true]
    refine Ev.bind q3 ?_
    simp only
    have q4 := spec_l05Take_ev s hs' (pReadVar s (0 + 1)).2.1 true 1 k2 (by decide)
    rw [curTake_bad] at q4
    refine Ev.bind q4 ?_
    simp only [if_true]
    exact Ev.now _
  have k3 : curOk s (pReadVar s (pReadVar s (0 + 1)).2.1).2.1 := by have h := curVar_ok (b := false) k2; rw [e3] at h; exact h
  rw [e3] at q3
  rw [e3]
  refine Ev.bind q3 ?_
  simp only
  obtain ⟨x, n1, ex⟩ : ∃ x n1, pReadVar s 1 = (x, n1, true) := ⟨_, _, by first | (rw [← o2]; done) | (rw [← o2]; rfl)⟩
  have ex' : pReadVar s (0 + 1) = (x, n1, true) := ex
  rw [ex'] at k3 o3 ⊢
  simp only at k3 o3 ⊢
  obtain ⟨t, n2, et⟩ : ∃ x n, pReadVar s n1 = (x, n, true) := ⟨_, _, by first | (rw [← o3]; done) | (rw [← o3]; rfl)⟩
  rw [et] at k3 ⊢
  simp only at k3 ⊢
  have b2 := pReadVar_ok s n1 o3
  rw [et] at b2
  simp only at b2
  have q4 := spec_l05Take_ev s hs' n2 false 1 k3 (by decide)
  rcases curTake1_cases s n2 with ⟨g4, e4⟩ | ⟨g4, e4⟩
  · have f4 : curOne s n2 false = (0, n2, true) := by
      rcases curOne_cases s n2 with ⟨_, h⟩ | ⟨h, _⟩
      · exact h
      · omega
    rw [e4] at q4
    rw [f4]
    refine Ev.bind q4 ?_
    simp only [if_true]
    exact Ev.now _
  have f4 : curOne s n2 false = (bt s n2, n2 + 1, false) := by
    rcases curOne_cases s n2 with ⟨h, _⟩ | ⟨_, h⟩
    · omega
    · exact h
  rw [e4] at q4
  rw [f4]
  refine Ev.bind q4 ?_
  have hz : (0 : Int) < ((s.extract n2.toNat (n2 + 1).toNat).size : Int) := by rw [size_ext]; omega
  have z1 : 0 ≤ n2 + 1 := by omega
  have z2 : n2 + 1 ≤ (s.size : Int) := by omega
  have hd : (s.extract (n2 + 1).toNat s.size).size ≤ 1048576 := by rw [size_ext]; omega
  simp only [Bool.false_eq_true, if_false, hz, z1, z2, if_true, bt_ext s n2 (by omega) g4]
  refine Ev.bind (spec_EntryText_ev x t (bt s n2) _ hd) ?_
  have hiff := entB_iff (s := s) (n1 := n1) (n2 := n2) (x := x) (t := t) g1 o2 ex o3 et g4
  by_cases ho : pEntryOk t (bt s n2) (s.extract (n2 + 1).toNat s.size) = true ∧ 1 ≤ x ∧ x ≤ 1000000
  · rw [pEntryText_yes ho]
    by_cases h69 : bt s 0 = 69
    · have hb := hiff.2 h69
      simp only [if_true, hb, h69, ho, and_self]
      exact Ev.now _
    · have hb : ¬ (entB x t (bt s n2) (s.extract (n2 + 1).toNat s.size)).toList = s.toList := fun h => h69 (hiff.1 (toList_iff.1 h))
      simp only [if_true, hb, h69, if_false, false_and]
      exact Ev.now _
  · rw [pEntryText_no ho]
    have : ¬ (bt s 0 = 69 ∧ pEntryOk t (bt s n2) (s.extract (n2 + 1).toNat s.size) = true ∧ 1 ≤ x ∧ x ≤ 1000000) := fun h => ho h.2
    simp only [Bool.false_eq_true, if_false, this]
    exact Ev.now _

theorem spec_SumMore_l1 (s : ByteArray) (i : Int) (h0 : 0 ≤ i) (h1 : i < s.size) (hs : s.size ≤ 140737488351232) (r : Int) : ∀ (m : Nat) (j x : Int), 0 ≤ j → j + m = 8 →
    Ev (fun k => spec_SumMore.l0 k (crcK m x) s (i + 1)) r → Ev (fun k => spec_SumMore.l1 k x s i j) r := by
  intro m
  induction m with
  | zero =>
    intro j x hj hm h
    apply ev_succ
    have c : ¬ j < 8 := by omega
    have e : wrap64 (i + 1) = i + 1 := w64 (by omega) (by omega)
    simp only [spec_SumMore.l1, c, if_false, e]
    exact h
  | succ m ih =>
    intro j x hj hm h
    apply ev_succ
    have c : j < 8 := by omega
    have e : wrap64 (j + 1) = j + 1 := w64 (by omega) (by omega)
    have hh := ih (j + 1) (crc1 x) (by omega) (by omega) h
    by_cases o : Int.tmod x 2 = 1
    · simp only [crc1, o, if_true] at hh
      simp only [spec_SumMore.l1, c, o, if_true, e]
      exact hh
    · simp only [crc1, o, if_false] at hh
      simp only [spec_SumMore.l1, c, o, if_true, if_false, e]
      exact hh
theorem spec_SumMore_l0 (s : ByteArray) (hs : s.size ≤ 140737488351232) : ∀ (d : Nat) (i : Int) (x : Int), 0 ≤ i → i + d = s.size →
    Ev (fun k => spec_SumMore.l0 k x s i) (crcL x ((bytesOf s).drop i.toNat)) := by
  intro d
  induction d with
  | zero =>
    intro i x h0 h
    apply ev_succ
    have c : ¬ i < (s.size : Int) := by omega
    simp only [spec_SumMore.l0, c, if_false]
    apply ev_some
    rw [List.drop_of_length_le (by rw [bytes_len]; omega)]; rfl
  | succ d ih =>
    intro i x h0 h
    apply ev_succ
    have c : i < (s.size : Int) := by omega
    simp only [spec_SumMore.l0, c, h0, if_true]
    have hh := ih (i + 1) (crcB x (bt s i)) (by omega) (by omega)
    rw [drop_bt s i h0 c]
    exact spec_SumMore_l1 s i h0 c hs _ 8 0 _ (by omega) (by omega) hh
theorem spec_SumMore_ev (x : Int) (s : ByteArray) (hs : s.size ≤ 140737488351232) : Ev (fun k => spec_SumMore.f k x s) (crcL x (bytesOf s)) := by
  simp only [spec_SumMore.f]
  exact spec_SumMore_l0 s hs s.size 0 x (by omega) (by omega)

theorem spec_SumOf_ev (s : ByteArray) (hs : s.size ≤ 140737488351232) : Ev (fun k => spec_SumOf.f k s) (sumN s) := by
  simp only [spec_SumOf.f]
  exact Ev.bind (spec_SumMore_ev _ s hs) (Ev.now _)

theorem spec_l02Four_ev (x : Int) : Ev (fun _ => spec_l02Four.f x) (strOfNums (four x)) := ev_const rfl

theorem spec_Frame_ev (s : ByteArray) (hs : s.size ≤ 140737488351232) : Ev (fun k => spec_Frame.f k s) (pFrame s) := by
  simp only [spec_Frame.f]
  refine Ev.bind (spec_l01In_ev _ _ _) ?_
  by_cases h : 1 ≤ s.size ∧ s.size ≤ 9000
  · have h' : 1 ≤ (s.size : Int) ∧ (s.size : Int) ≤ 9000 := by omega
    simp only [h', and_self, decide_true, if_true]
    refine Ev.bind (spec_l01Var_ev s.size (by omega)) ?_
    refine Ev.bind (spec_SumOf_ev s hs) ?_
    refine Ev.bind (spec_l02Four_ev _) ?_
    rw [pFrame_yes h]
    have hv := (varN_len s.size).2
    have c1 : (varB s.size).size + (strOfNums (four (sumN s))).size ≤ 9223372036854775807 := by rw [varB, str_len, str_len]; simp [four]; omega
    have c2 : (varB s.size ++ strOfNums (four (sumN s))).size + s.size ≤ 9223372036854775807 := by rw [size_app, varB, str_len, str_len]; simp [four]; omega
    simp only [c1, c2, if_true]
    exact Ev.now _
  · have h' : ¬ (1 ≤ (s.size : Int) ∧ (s.size : Int) ≤ 9000) := by omega
    simp only [h', decide_false, Bool.false_eq_true, if_false]
    rw [pFrame_no h]
    exact Ev.now _

theorem spec_Unframe_l0 (s : ByteArray) (hs : s.size ≤ 20000) : ∀ (d : Nat) (at_ : Int) (acc : List ByteArray), 0 ≤ at_ → at_ ≤ s.size → s.size - at_ < d → acc.length ≤ at_ →
    Ev (fun k => spec_Unframe.l0 k s acc at_) (pUnfr s d acc at_) := by
  intro d
  induction d with
  | zero => intro at_ acc h0 h1 h2; omega
  | succ d ih =>
    intro at_ acc h0 h1 h2 h3
    apply ev_succ
    by_cases cs : at_ < (s.size : Int)
    · simp only [spec_Unframe.l0, cs, if_true]
      have hstop : ¬ uOk s at_ → ∀ n m, Ev (fun k => spec_Unframe.j1 k s acc at_ n m true) (pUnfr s (d + 1) acc at_) := by
        intro hn n m
        apply ev_succ
        simp only [spec_Unframe.j1, if_true]
        rw [pUnfr_no hn]
        exact Ev.now _
      refine Ev.bind (spec_ReadVar_ev s (by omega) at_) ?_
      by_cases ho : (pReadVar s at_).2.2 = true
      · have hb := pReadVar_ok s at_ ho
        have hgo := fun (hu : uOk s at_) => ih (uNext s at_) (acc ++ [uRec s at_]) (by have := uOk_next hu; omega) (uOk_next hu).2 (by have := uOk_next hu; omega) (by have := uOk_next hu; simp; omega)
        have hyes := fun (hu : uOk s at_) => pUnfr_yes (s := s) (f := d) (acc := acc) hu
        simp only [ho, if_true]
        have e1 : wrap64 ((s.size : Int) - (pReadVar s at_).2.1) = s.size - (pReadVar s at_).2.1 := w64 (by omega) (by omega)
        have e2 : wrap64 ((s.size : Int) - (pReadVar s at_).2.1 - 4) = s.size - (pReadVar s at_).2.1 - 4 := w64 (by omega) (by omega)
        rw [e1, e2]
        by_cases hq : (pReadVar s at_).1 > s.size - (pReadVar s at_).2.1 - 4
        · simp only [hq, decide_true]
          exact hstop (fun hu => by have := hu.2.2.1; omega) _ _
        · simp only [hq, decide_false]
          apply ev_succ
          have e3 : wrap64 ((pReadVar s at_).2.1 + 4) = (pReadVar s at_).2.1 + 4 := w64 (by omega) (by omega)
          have e4 : wrap64 ((pReadVar s at_).2.1 + 4 + (pReadVar s at_).1) = (pReadVar s at_).2.1 + 4 + (pReadVar s at_).1 := w64 (by omega) (by omega)
          have k1 : 0 ≤ (pReadVar s at_).2.1 + 4 := by omega
          have k2 : (pReadVar s at_).2.1 + 4 ≤ (pReadVar s at_).2.1 + 4 + (pReadVar s at_).1 := by omega
          have k3 : (pReadVar s at_).2.1 + 4 + (pReadVar s at_).1 ≤ (s.size : Int) := by omega
          have k4 : at_ ≤ (pReadVar s at_).2.1 + 4 + (pReadVar s at_).1 := by omega
          have hsz : (uRec s at_).size = (pReadVar s at_).1.toNat := by unfold uRec; rw [size_ext]; omega
          have hsz2 : (uRec s at_).size ≤ 140737488351232 := by omega
          simp only [spec_Unframe.j1, Bool.false_eq_true, if_false, e3, e4, k1, k2, k3, if_true]
          refine Ev.bind (spec_Frame_ev (uRec s at_) hsz2) ?_
          have ha : acc.length < 8796093022208 := by omega
          by_cases hn : 1 ≤ (pReadVar s at_).1 ∧ (pReadVar s at_).1 ≤ 9000
          · rw [pFrame_yes (by omega)]
            have hiff := frame_iff s at_ ho hn (by omega)
            unfold uNext at hiff
            simp only [h0, k4, if_true, toList_iff, ha, hiff]
            by_cases hx : strOfNums (four (sumN (uRec s at_))) = s.extract (pReadVar s at_).2.1.toNat ((pReadVar s at_).2.1 + 4).toNat
            · have hu : uOk s at_ := ⟨ho, hn, by omega, hx⟩
              rw [hyes hu]
              simp only [hx, if_true]
              exact hgo hu
            · rw [pUnfr_no (fun hu => hx hu.2.2.2)]
              simp only [hx, if_false]
              exact Ev.now _
          · rw [pFrame_no (by omega), pUnfr_no (fun hu => hn hu.2.1)]
            simp only [Bool.false_eq_true, if_false]
            exact Ev.now _
      · simp only [ho, if_false]
        exact hstop (fun hu => ho hu.1) _ _
    · simp only [spec_Unframe.l0, cs, if_false]
      rw [pUnfr_no (fun hu => by have := uOk_next hu; omega)]
      exact Ev.now _
theorem spec_Unframe_ev (s : ByteArray) (hs : s.size ≤ 1048576) : Ev (fun k => spec_Unframe.f k s) (pUnframe s) := by
  simp only [spec_Unframe.f, Option.bind_some]
  by_cases h : s.size ≤ 20000
  · have c : ¬ (s.size : Int) > 20000 := by omega
    simp only [c, if_false]
    rw [pUnframe, if_pos h]
    exact spec_Unframe_l0 s h (s.size + 1) 0 [] (by omega) (by omega) (by omega) (by simp)
  · have c : (s.size : Int) > 20000 := by omega
    simp only [c, if_true]
    rw [pUnframe, if_neg h]
    exact Ev.now _

theorem spec_l01Var_int (x : Int) (h : 0 ≤ x ∧ x ≤ 1000000000) : Ev (fun k => spec_l01Var.f k x) (varB x.toNat) := by
  have := spec_l01Var_ev x.toNat (by omega)
  rwa [Int.toNat_of_nonneg h.1] at this
def twoQ (s : ByteArray) (sg : Int) : Int × Int × Bool := if (twoP s sg).2.2 = true then ((twoP s sg).1, (twoP s sg).2.1, true) else (0, 0, false)
theorem twoQ_ok (s : ByteArray) (sg : Int) : (twoQ s sg).2.2 = (twoP s sg).2.2 := by
  unfold twoQ
  by_cases h : (twoP s sg).2.2 = true
  · rw [if_pos h, h]
  · rw [if_neg h]; simp only [Bool.not_eq_true] at h; exact h.symm
theorem twoQ_yes {s : ByteArray} {sg : Int} (h : (twoP s sg).2.2 = true) : twoQ s sg = ((twoP s sg).1, (twoP s sg).2.1, true) := by rw [twoQ, if_pos h]
theorem twoQ_no {s : ByteArray} {sg : Int} (h : (twoP s sg).2.2 = false) : twoQ s sg = (0, 0, false) := by rw [twoQ, if_neg (by rw [h]; decide)]
theorem spec_l07Two_ev (s : ByteArray) (hs : s.size ≤ 1048576) (sg : Int) (hsg : 0 ≤ sg ∧ sg < 256) (z : ByteArray) (ez : z = strOfNums [sg]) : Ev (fun k => spec_l07Two.f k s z) (twoQ s sg) := by
  have hs' : s.size ≤ 140737488351232 := by omega
  have hz : z.size = 1 := by rw [ez, str_len]; rfl
  have h0 : curOk s 0 := by unfold curOk; omega
  simp only [spec_l07Two.f]
  have q1 := spec_l05Take_ev s hs' 0 false 1 h0 (by decide)
  rcases curTake1_cases s 0 with ⟨g1, e1⟩ | ⟨g1, e1⟩
  · have f1 : curOne s 0 false = (0, 0, true) := by
      rcases curOne_cases s 0 with ⟨_, h⟩ | ⟨h, _⟩
      · exact h
      · omega
    rw [e1] at q1
    rw [twoQ_no (by unfold twoP; simp only [f1, curVar_bad, Bool.not_true, Bool.false_and, Bool.and_false])]
    refine Ev.bind q1 ?_
    simp only
    have q2 := spec_l05Var_ev s hs' 0 true
    rw [curVar_bad] at q2
    refine Ev.bind q2 ?_
    simp only
    refine Ev.bind q2 ?_
    simp only [if_true]
    exact Ev.now _
  have f1 : curOne s 0 false = (bt s 0, 0 + 1, false) := by
    rcases curOne_cases s 0 with ⟨h, _⟩ | ⟨_, h⟩
    · omega
    · exact h
  rw [e1] at q1
  refine Ev.bind q1 ?_
  simp only
  have q2 := spec_l05Var_ev s hs' (0 + 1) false
  rcases curVar_cases s (0 + 1) with e2 | ⟨o2, e2⟩
  · rw [e2] at q2
    rw [twoQ_no (by unfold twoP; simp only [f1, e2, curVar_bad, Bool.not_true, Bool.false_and, Bool.and_false])]
    refine Ev.bind q2 ?_
    simp only
    have q3 := spec_l05Var_ev s hs' (0 + 1) true
    rw [curVar_bad] at q3
    refine Ev.bind q3 ?_
    simp only [if_true]
    exact Ev.now _
  rw [e2] at q2
  refine Ev.bind q2 ?_
  simp only
  have q3 := spec_l05Var_ev s hs' (pReadVar s (0 + 1)).2.1 false
  rcases curVar_cases s (pReadVar s (0 + 1)).2.1 with e3 | ⟨o3, e3⟩
  · rw [e3] at q3
    rw [twoQ_no (by unfold twoP; simp only [f1, e2, e3, Bool.not_true, Bool.false_and, Bool.and_false])]
    refine Ev.bind q3 ?_
    simp only [if_true]
    exact Ev.now _
  rw [e3] at q3
  refine Ev.bind q3 ?_
  obtain ⟨x, n1, ex⟩ : ∃ x n1, pReadVar s 1 = (x, n1, true) := ⟨_, _, by first | (rw [← o2]; done) | (rw [← o2]; rfl)⟩
  have ex' : pReadVar s (0 + 1) = (x, n1, true) := ex
  rw [ex'] at o3 e2 e3 ⊢
  simp only at o3 e2 e3 ⊢
  obtain ⟨t, n2, et⟩ : ∃ x n, pReadVar s n1 = (x, n, true) := ⟨_, _, by first | (rw [← o3]; done) | (rw [← o3]; rfl)⟩
  rw [et] at e3 ⊢
  simp only [Bool.false_eq_true, if_false] at e3 ⊢
  have b1 := pReadVar_ok s 1 o2
  have b2 := pReadVar_ok s n1 o3
  rw [ex] at b1
  rw [et] at b2
  simp only at b1 b2
  have s1 : (varB x.toNat).size ≤ 5 := varB_size5 (by omega)
  have s2 : (varB t.toNat).size ≤ 5 := varB_size5 (by omega)
  refine Ev.bind (spec_l01Var_int x (by omega)) ?_
  have c1 : z.size + (varB x.toNat).size ≤ 9223372036854775807 := by omega
  simp only [c1, if_true]
  refine Ev.bind (spec_l01Var_int t (by omega)) ?_
  have c2 : (z ++ varB x.toNat).size + (varB t.toNat).size ≤ 9223372036854775807 := by rw [size_app]; omega
  simp only [c2, if_true]
  have hiff := twoB_iff (s := s) (n1 := n1) (n2 := n2) (x := x) (t := t) (sign := sg) hsg g1 o2 ex o3 et
  have et2 : twoP s sg = (x, t, decide (bt s 0 = sg) && (!false && (n2 == (s.size : Int)))) := by unfold twoP; simp only [f1, e2, e3]
  by_cases h : bt s 0 = sg ∧ n2 = s.size
  · have hb := hiff.2 h
    rw [twoB, ← ez] at hb
    rw [twoQ_yes (by rw [et2]; simp only [h.1, h.2, decide_true, beq_self_eq_true, Bool.not_false, Bool.and_self]), et2, hb]
    simp only [if_true]
    exact Ev.now _
  · have hb : ¬ ((z ++ varB x.toNat) ++ varB t.toNat).toList = s.toList := fun q => h (hiff.1 (by rw [twoB, ← ez]; exact toList_iff.1 q))
    have hf : (decide (bt s 0 = sg) && (!false && (n2 == (s.size : Int)))) = false := by
      by_cases a : bt s 0 = sg
      · have b : ¬ n2 = s.size := fun b => h ⟨a, b⟩
        rw [beq_false_of_ne b]; simp
      · rw [decide_eq_false a]; rfl
    rw [twoQ_no (by rw [et2, hf])]
    simp only [hb, if_false]
    exact Ev.now _
def jvM (p : JV × Bool) : Int × Int × Int × Int × (List (S56)) × Bool := (p.1.t, p.1.v, p.1.a, p.1.b, p.1.l, p.2)
theorem spec_l07More_ev (j : JV) (r : ByteArray) (hr : r.size ≤ 1048576) (hj : j.ok) : Ev (fun k => spec_l07More.f k j.t j.v j.a j.b j.l r) (jvM (pTold j r)) := by
  simp only [spec_l07More.f]
  refine Ev.bind (spec_l07Two_ev r hr 72 (by decide) _ rfl) ?_
  by_cases h : (twoP r 72).2.2 = true
  · rw [twoQ_yes h]
    simp only [if_true]
    refine Ev.bind (spec_l01In_ev _ _ _) ?_
    by_cases v : 0 ≤ (twoP r 72).1 ∧ (twoP r 72).1 ≤ 100000
    · rw [decide_eq_true v]
      simp only [if_true]
      refine Ev.bind (spec_l01In_ev _ _ _) ?_
      by_cases w : 0 ≤ (twoP r 72).2.1 ∧ (twoP r 72).2.1 ≤ 4
      · rw [decide_eq_true w, pTold_a h ⟨v, w⟩]
        simp only [if_true]
        exact Ev.now _
      · rw [decide_eq_false w, pTold_b h (fun q => w q.2)]
        simp only [Bool.false_eq_true, if_false]
        exact Ev.now _
    · rw [decide_eq_false v, pTold_b h (fun q => v q.1)]
      simp only [Bool.false_eq_true, if_false]
      exact Ev.now _
  · rw [twoQ_no (by simpa using h), pTold_c h]
    simp only [Bool.false_eq_true, if_false]
    refine Ev.bind (spec_ReadEntry_ev r hr) ?_
    unfold pToldE
    by_cases h : (entP r).2.2.2.2 = true
    · simp only [h, if_true]
      refine Ev.bind (spec_LogPut_ev j.a j.b j.l (entP r).1 ⟨(entP r).2.1, (entP r).2.2.1, (entP r).2.2.2.1⟩ hj.1 hj.2 (Nat.le_trans (entP_size r) hr)) ?_
      by_cases o : (pLogPut j.a j.b j.l (entP r).1 ⟨(entP r).2.1, (entP r).2.2.1, (entP r).2.2.2.1⟩).2.2.2 = true
      · simp only [o, if_true]; exact Ev.now _
      · simp only [o, Bool.false_eq_true, if_false]; exact Ev.now _
    · simp only [h, Bool.false_eq_true, if_false]; exact Ev.now _
theorem spec_ReadJournal_l0 (rs : List ByteArray) (hn : rs.length ≤ 20001) (hr : ∀ r ∈ rs, r.size ≤ 9000) : ∀ (d : Nat) (i at_ : Int) (j : JV), 1 ≤ i → i + d = rs.length → 0 ≤ at_ → at_ ≤ 9009 * i → j.ok →
    Ev (fun k => spec_ReadJournal.l0 k at_ rs i j.n j.t j.v j.a j.b j.l) (jvG (pGo (rs.drop i.toNat) j at_)) := by
  intro d
  induction d with
  | zero =>
    intro i at_ j h1 hi h0 ha hj
    apply ev_succ
    have c : ¬ i < (rs.length : Int) := by omega
    rw [List.drop_eq_nil_of_le (by omega)]
    simp only [spec_ReadJournal.l0, c, if_false]
    exact Ev.now _
  | succ d ih =>
    intro i at_ j h1 hi h0 ha hj
    apply ev_succ
    have c : i < (rs.length : Int) := by omega
    have c0 : 0 ≤ i := by omega
    have c1 : i > 0 := by omega
    have e1 : wrap64 (i + 1) = i + 1 := w64 (by omega) (by omega)
    have hm : rs.getD i.toNat ByteArray.empty ∈ rs := by
      rw [List.getD_eq_getElem?_getD, List.getElem?_eq_getElem (by omega : i.toNat < rs.length)]
      exact List.getElem_mem _
    rw [drop_get rs i c0 c ByteArray.empty]
    simp only [spec_ReadJournal.l0, c, c0, c1, if_true, rdOf]
    obtain ⟨r, hd⟩ : ∃ r, rs.getD i.toNat ByteArray.empty = r := ⟨_, rfl⟩
    rw [hd] at hm ⊢
    have hz := hr r hm
    refine Ev.bind (spec_l07More_ev j r (by omega) hj) ?_
    by_cases t : (pTold j r).2 = true
    · rw [pGo_yes t]
      simp only [jvM, t, if_true]
      refine Ev.bind (spec_Frame_ev r (by omega)) ?_
      have hf := pFrame_size r
      have e2 : wrap64 (at_ + ((pFrame r).1.size : Int)) = at_ + ((pFrame r).1.size : Int) := w64 (by omega) (by omega)
      simp only [e1, e2]
      have := ih (i + 1) (at_ + ((pFrame r).1.size : Int)) (pTold j r).1 (by omega) (by omega) (by omega) (by omega) (pTold_ok j r hj (by omega))
      rwa [pTold_n] at this
    · rw [pGo_not t]
      simp only [jvM, t, Bool.false_eq_true, if_false, pTold_no t]
      exact Ev.now _
theorem spec_ReadJournal_ev (n : Int) (s : ByteArray) (hs : s.size ≤ 1048576) : Ev (fun k => spec_ReadJournal.f k n s) (jvR (pReadJ n s)) := by
  have hu := pUnframe_recs s
  simp only [spec_ReadJournal.f]
  refine Ev.bind (spec_Unframe_ev s hs) ?_
  refine Ev.bind (spec_l01In_ev _ _ _) ?_
  obtain ⟨rs, e⟩ : ∃ rs, (pUnframe s).1 = rs := ⟨_, rfl⟩
  rw [e] at hu ⊢
  cases rs with
  | nil =>
    rw [pReadJ_nil e]
    by_cases h : 0 ≤ n ∧ n ≤ 999
    · rw [decide_eq_true h]
      simp only [if_true, List.length_nil, Int.natCast_zero, Int.lt_irrefl, if_false]
      exact Ev.now _
    · rw [decide_eq_false h]
      simp only [Bool.false_eq_true, if_false]
      exact Ev.now _
  | cons r rs =>
    have hz := hu.2 r List.mem_cons_self
    by_cases h : 0 ≤ n ∧ n ≤ 999
    · rw [decide_eq_true h]
      have l1 : (0 : Int) < (((r :: rs).length : Nat) : Int) := by rw [List.length_cons]; omega
      have z0 : rdOf ByteArray.empty (r :: rs) 0 = r := rfl
      simp only [l1, z0, if_true]
      refine Ev.bind (spec_l07Two_ev r (by omega) 66 (by decide) _ rfl) ?_
      by_cases t : (twoP r 66).2.2 = true
      · rw [twoQ_yes t]
        simp only [if_true]
        refine Ev.bind (spec_LogOk_ev _ _ [] (Nat.zero_le _) (fun x hx => by cases hx)) ?_
        by_cases o : pLogOk (twoP r 66).1 (twoP r 66).2.1 [] = true
        · rw [pReadJ_yes e h t o]
          simp only [o, if_true]
          apply ev_succ
          have cg : ¬ (0 : Int) > 0 := by decide
          have e1 : wrap64 ((0 : Int) + 1) = 1 := w64 (by omega) (by omega)
          have hf := pFrame_size r
          have e2 : wrap64 (0 + ((pFrame r).1.size : Int)) = ((pFrame r).1.size : Int) := by rw [Int.zero_add]; exact w64 (by omega) (by omega)
          simp only [spec_ReadJournal.l0, l1, cg, z0, e1, Int.le_refl, if_true, if_false]
          refine Ev.bind (spec_Frame_ev r (by omega)) ?_
          simp only [e2]
          have := spec_ReadJournal_l0 (r :: rs) hu.1 hu.2 rs.length 1 ((pFrame r).1.size : Int) ⟨n, 0, 0, (twoP r 66).1, (twoP r 66).2.1, []⟩ (by omega) (by rw [List.length_cons]; omega) (by omega) (by omega) ⟨Nat.zero_le _, fun x hx => by cases hx⟩
          exact this
        · rw [pReadJ_no e (fun q => o q.2.2)]
          simp only [o, Bool.false_eq_true, if_false]
          exact Ev.now _
      · rw [twoQ_no (by simpa using t), pReadJ_no e (fun q => t q.2.1)]
        simp only [Bool.false_eq_true, if_false]
        exact Ev.now _
    · rw [decide_eq_false h, pReadJ_no e (fun q => h q.1)]
      simp only [Bool.false_eq_true, if_false]
      exact Ev.now _

theorem laws_eqEntry_ev (a0 : Int) (a1 : Int) (a2 : ByteArray) : Ev (fun _ => laws_eqEntry.f a0 a1 a2 a0 a1 a2) true := by
  apply ev_const
  simp [laws_eqEntry.f]

theorem laws_eqEntryS_ev (l : List (S56)) (hl : l.length ≤ 140737488355328) : Ev (fun k => laws_eqEntryS.f k l l) true := by
  simp only [laws_eqEntryS.f, if_true]
  have key := loop_up (fun k (_ : Unit) i => laws_eqEntryS.l0 k l l i) (l.length : Int) true (fun _ _ => True)
    (fun _ _ => by
      have c : ¬ (l.length : Int) < (l.length : Int) := by omega
      simp only [laws_eqEntryS.l0, c, if_false]
      exact Ev.now _)
    (fun _ i h0 h1 _ ih => by
      have e2 : wrap64 (i + 1) = i + 1 := w64 (by omega) (by omega)
      simp only [laws_eqEntryS.l0, h1, h0, if_true, e2]
      refine Ev.bind (laws_eqEntry_ev _ _ _) ?_
      simp only [if_true]
      exact ih () trivial)
  exact key l.length 0 () (by omega) (by omega) trivial

theorem laws_markText_l0 (n : Nat) : ∀ s : ByteArray, s.size + n ≤ 140737488355328 → Ev (fun k => laws_markText.l0 k (n : Int) s) (decF n s) := by
  induction n using Nat.strongRecOn with
  | ind n ih =>
    intro s hs
    apply ev_succ
    by_cases hn : n = 0
    · subst hn
      have c : ¬ ((0 : Nat) : Int) > 0 := by omega
      have c2 : 1 + s.size ≤ 9223372036854775807 := by omega
      simp only [laws_markText.l0, c, c2, if_true, if_false]
      rw [decF_zero]
      exact Ev.now _
    · have c : (n : Int) > 0 := by omega
      have e1 : wrap64 (48 + Int.tmod (n : Int) 10) % 256 = ((48 + n % 10 : Nat) : Int) := by
        rw [Int.tmod_eq_emod_of_nonneg (by omega), w64 (by omega) (by omega)]; omega
      have e2 : wrap64 (Int.tdiv (n : Int) 10) = ((n / 10 : Nat) : Int) := by
        rw [Int.tdiv_eq_ediv_of_nonneg (by omega), w64 (by omega) (by omega)]; omega
      have c2 : (strOfNums [((48 + n % 10 : Nat) : Int)]).size + s.size ≤ 9223372036854775807 := by rw [str_len]; simp; omega
      simp only [laws_markText.l0, c, if_true, e1, e2, Option.bind_some, c2]
      rw [decF_more hn]
      refine ih (n / 10) (by omega) _ ?_
      rw [size_app, str_len]; simp; omega
theorem laws_markText_ev (k : Int) (h : k ≤ 140737488355328) : Ev (fun n => laws_markText.f n k) (markT k) := by
  simp only [laws_markText.f]
  by_cases c : k ≤ 0
  · simp only [c, if_true]
    rw [markT, if_pos c]
    exact Ev.now _
  · simp only [c, if_false]
    rw [markT, if_neg c]
    obtain ⟨n, rfl⟩ := Int.eq_ofNat_of_zero_le (show 0 ≤ k by omega)
    have := laws_markText_l0 n ⟨#[]⟩ (by simp [ByteArray.size]; omega)
    simpa using this

def mkEntry (a : Int) : Nat → List (S56)
  | 0 => []
  | n + 1 => ⟨a, a + 1, markT (a + 1 + 1)⟩ :: mkEntry (a + 1 + 1 + 1) n
theorem mkEntry_len (a : Int) (n : Nat) : (mkEntry a n).length = n := by
  induction n generalizing a with
  | zero => rfl
  | succ n ih => simp [mkEntry, ih]
theorem mkEntry_get (a : Int) (n i : Nat) (h : i < n) : (mkEntry a n)[i]? = some ⟨(a + 3 * (i : Int)), (a + 3 * (i : Int)) + 1, markT ((a + 3 * (i : Int)) + 1 + 1)⟩ := by
  induction n generalizing a i with
  | zero => omega
  | succ n ih =>
    cases i with
    | zero => simp [mkEntry]
    | succ i =>
      simp only [mkEntry, List.getElem?_cons_succ]
      rw [ih _ _ (by omega)]
      rw [show (a + 1 + 1 + 1) + 3 * (i : Int) = a + 3 * ((i + 1 : Nat) : Int) by omega]
theorem laws_markEntryS_ev (l : List (S56)) (a : Int) (ha : 0 ≤ a) (hb : a ≤ 70368744177664) (hl : l.length ≤ 1099511627776) : Ev (fun k => laws_markEntryS.f k l a) (a + 3 * l.length, mkEntry a l.length) := by
  simp only [laws_markEntryS.f]
  have key := loop_up (fun k (s : List (S56) × Int) i => laws_markEntryS.l0 k s.1 s.2 i) (l.length : Int) (a + 3 * l.length, mkEntry a l.length)
    (fun s i => s.1.length = l.length ∧ s.2 = a + 3 * i ∧ s.1.take i.toNat = (mkEntry a l.length).take i.toNat)
    (fun s hs => by
      obtain ⟨b, x⟩ := s
      obtain ⟨hb, rfl, ht⟩ := hs
      simp only at hb ht ⊢
      have c : ¬ (l.length : Int) < (b.length : Int) := by omega
      simp only [laws_markEntryS.l0, c, if_false]
      apply ev_some
      rw [List.take_of_length_le (by omega), List.take_of_length_le (by rw [mkEntry_len]; omega)] at ht
      rw [ht])
    (fun s i h0 h1 hs ih => by
      obtain ⟨b, x⟩ := s
      obtain ⟨hb, rfl, ht⟩ := hs
      simp only at hb ht ⊢
      have h1' : i < (b.length : Int) := by omega
      have hr : ∀ v, rd_T56 (b.set i.toNat v) i = v := fun v => get_set b i v h0 h1' z56
      have hfin := ih (b.set i.toNat ⟨(a + 3 * i), (a + 3 * i) + 1, markT ((a + 3 * i) + 1 + 1)⟩, (a + 3 * i) + 1 + 1 + 1) ⟨by simp [hb], by simp only; omega, by
        simp only
        rw [show (i + 1).toNat = i.toNat + 1 by omega]
        refine take_set (mkEntry a l.length) b i.toNat _ (by rw [mkEntry_len]; exact hb) (by rw [mkEntry_len]; omega) ht ?_
        rw [mkEntry_get _ _ _ (by omega), show ((i.toNat : Nat) : Int) = i by omega]⟩
      have e1 : wrap64 ((a + 3 * i) + 1) = (a + 3 * i) + 1 := w64 (by omega) (by omega)
      have e2 : wrap64 ((a + 3 * i) + 1 + 1) = (a + 3 * i) + 1 + 1 := w64 (by omega) (by omega)
      have e3 : wrap64 ((a + 3 * i) + 1 + 1 + 1) = (a + 3 * i) + 1 + 1 + 1 := w64 (by omega) (by omega)
      have ei : wrap64 (i + 1) = i + 1 := w64 (by omega) (by omega)
      simp only [laws_markEntryS.l0, h1', h0, if_true, e1, e2, e3, ei, Option.bind_some, hr, List.set_set]
      refine Ev.bind (laws_markText_ev _ (by omega)) ?_
      try simp only [h1', h0, if_true, Option.bind_some, hr, List.set_set]
      exact hfin)
  exact key l.length 0 (l, a) (by omega) (by omega) ⟨rfl, by simp, by simp⟩
theorem laws_heldEntryS_ev (a : Int) (n : Nat) (ha : 0 ≤ a) (hb : a ≤ 70368744177664) (hn : n ≤ 1099511627776) : Ev (fun k => laws_heldEntryS.f k (mkEntry a n) a) (a + 3 * n) := by
  simp only [laws_heldEntryS.f]
  have key := loop_up (fun k (s : Int) i => laws_heldEntryS.l0 k (mkEntry a n) s i) (n : Int) (a + 3 * n) (fun s i => s = a + 3 * i)
    (fun s hs => by
      subst hs
      have c : ¬ (n : Int) < ((mkEntry a n).length : Int) := by rw [mkEntry_len]; omega
      simp only [laws_heldEntryS.l0, c, if_false]
      exact Ev.now _)
    (fun s i h0 h1 hs ih => by
      subst hs
      have hfin := ih ((a + 3 * i) + 1 + 1 + 1) (by omega)
      have c : i < ((mkEntry a n).length : Int) := by rw [mkEntry_len]; omega
      have he : rd_T56 (mkEntry a n) i = ⟨(a + 3 * i), (a + 3 * i) + 1, markT ((a + 3 * i) + 1 + 1)⟩ := by
        have hg := mkEntry_get a n i.toNat (by omega)
        rw [show ((i.toNat : Nat) : Int) = i by omega] at hg
        unfold rd_T56
        rw [List.getD_eq_getElem?_getD, hg]
        rfl
      have e1 : wrap64 ((a + 3 * i) + 1) = (a + 3 * i) + 1 := w64 (by omega) (by omega)
      have e2 : wrap64 ((a + 3 * i) + 1 + 1) = (a + 3 * i) + 1 + 1 := w64 (by omega) (by omega)
      have e3 : wrap64 ((a + 3 * i) + 1 + 1 + 1) = (a + 3 * i) + 1 + 1 + 1 := w64 (by omega) (by omega)
      have ei : wrap64 (i + 1) = i + 1 := w64 (by omega) (by omega)
      simp only [laws_heldEntryS.l0, c, h0, if_true, e1, e2, e3, ei, he]
      refine Ev.bind (laws_markText_ev _ (by omega)) ?_
      simp only [if_true]
      exact hfin)
  exact key n 0 a (by omega) (by omega) (by omega)

theorem laws_markLog_ev (a b : Int) (l : List (S56)) (k0 : Int) (ha : 0 ≤ k0) (hb : k0 ≤ 70368744177664) (hl : l.length ≤ 1099511627776) : Ev (fun k => laws_markLog.f k a b l k0) (k0 + 3 * l.length, mkEntry k0 l.length) := by
  simp only [laws_markLog.f]
  exact Ev.bind (laws_markEntryS_ev l k0 ha hb hl) (Ev.now _)
theorem laws_heldLog_ev (a b : Int) (k0 : Int) (n : Nat) (ha : 0 ≤ k0) (hb : k0 ≤ 70368744177664) (hn : n ≤ 1099511627776) : Ev (fun k => laws_heldLog.f k a b (mkEntry k0 n) k0) (k0 + 3 * n) := by
  simp only [laws_heldLog.f]
  refine Ev.bind (laws_heldEntryS_ev k0 n ha hb hn) ?_
  have c : ¬ k0 + 3 * (n : Int) < 0 := by omega
  simp only [c, if_false]
  exact Ev.now _

theorem laws_eqLog_ev (a b : Int) (l : List (S56)) (hl : l.length ≤ 140737488355328) : Ev (fun k => laws_eqLog.f k a b l a b l) true := by
  simp only [laws_eqLog.f, if_true]
  refine Ev.bind (laws_eqEntryS_ev l hl) ?_
  simp
theorem laws_eqJournal_ev (n t v a b : Int) (l : List (S56)) (hl : l.length ≤ 140737488355328) : Ev (fun k => laws_eqJournal.f k n t v a b l n t v a b l) true := by
  simp only [laws_eqJournal.f, if_true]
  refine Ev.bind (laws_eqLog_ev a b l hl) ?_
  simp
theorem laws_markJournal_ev (n t v a b : Int) (l : List (S56)) (k0 : Int) (ha : 0 ≤ k0) (hb : k0 ≤ 70368744177664) (hl : l.length ≤ 1099511627776) : Ev (fun k => laws_markJournal.f k n t v a b l k0) (k0 + 3 * l.length, mkEntry k0 l.length) := by
  simp only [laws_markJournal.f]
  exact Ev.bind (laws_markLog_ev a b l k0 ha hb hl) (Ev.now _)
theorem laws_heldJournal_ev (n t v a b : Int) (k0 : Int) (m : Nat) (ha : 0 ≤ k0) (hb : k0 ≤ 70368744177664) (hn : m ≤ 1099511627776) : Ev (fun k => laws_heldJournal.f k n t v a b (mkEntry k0 m) k0) (k0 + 3 * m) := by
  simp only [laws_heldJournal.f]
  refine Ev.bind (laws_heldLog_ev a b k0 m ha hb hn) ?_
  have c : ¬ k0 + 3 * (m : Int) < 0 := by omega
  simp only [c, if_false]
  exact Ev.now _
theorem FnExactReadJournal : laws_FnExactReadJournal.Pure := by
  intro n s hn hs
  apply ev_rounds
  simp only [laws_FnExactReadJournal.f]
  by_cases c : (s.size : Int) > 1048576
  · simp only [c, if_true]
    exact Ev.now _
  simp only [c, if_false]
  have hI := impl_ReadJournal_ev n s (by omega)
  have hS := spec_ReadJournal_ev n s (by omega)
  obtain ⟨j, d, o, hp⟩ : ∃ j d o, pReadJ n s = (j, d, o) := ⟨_, _, _, rfl⟩
  have ho : j.ok := by have h := pReadJ_ok n s; rw [hp] at h; exact h
  rw [hp] at hI hS
  simp only [jvR] at hI hS
  have hq := laws_eqJournal_ev j.n j.t j.v j.a j.b j.l (by have := ho.1; omega)
  have hm := laws_markJournal_ev j.n j.t j.v j.a j.b j.l 1 (by decide) (by decide) (by have := ho.1; omega)
  have hh := laws_heldJournal_ev j.n j.t j.v j.a j.b 1 j.l.length (by decide) (by decide) (by have := ho.1; omega)
  have h1 : ¬ (1 + 3 * (j.l.length : Int)) < 0 := by omega
  refine Ev.bind hS ?_
  refine Ev.bind hI ?_
  refine Ev.bind hq ?_
  simp only [if_true, bne_self_eq_false]
  apply ev_succ
  simp only [laws_FnExactReadJournal.j0, Bool.false_eq_true, if_false]
  refine Ev.bind hm ?_
  refine Ev.bind hh ?_
  simp only [h1, if_false, if_true]
  refine Ev.bind hI ?_
  refine Ev.bind hq ?_
  simp only [if_true, bne_self_eq_false]
  apply ev_succ
  simp only [laws_FnExactReadJournal.j1, Bool.false_eq_true, if_false]
  refine Ev.bind hh ?_
  simp only [h1, if_false, if_true]
  exact Ev.now _

end Go.Proofs.Ytogifkjkbfdocaa.Pure
