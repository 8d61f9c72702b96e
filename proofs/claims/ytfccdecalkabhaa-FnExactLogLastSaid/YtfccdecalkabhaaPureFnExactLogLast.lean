/- LogLast of the program and of the reference give the same numbers for every log, which stays as it is. -/
import Derived.Test.YtfccdecalkabhaaOpenFnExactLogLast
import Derived.Test.YtfccdecalkabhaaBaseL
namespace Go.Proofs.Ytfccdecalkabhaa.Pure
open Go.RowKit Go.Proofs.Ytfccdecalkabhaa.PFnExactLogLast Go.Proofs.YtfccdecalkabhaaW.PrintWords Go.Proofs.YtfccdecalkabhaaW.PrintLast Go.Proofs.YtfccdecalkabhaaW.PrintMore Go.Proofs.Ytfccdecalkabhaa.Base
set_option linter.unusedVariables false
set_option linter.unusedSimpArgs false

theorem laws_szEntry_ev (a0 : Int) (a1 : Int) (a2 : ByteArray) (left : Int) (h0 : 0 ≤ left) (h1 : left ≤ 1048576) (g2 : a2.size ≤ 9223372036854775807) : ∃ r : Int, Ev (fun _ => laws_szEntry.f a0 a1 a2 left) r ∧ (r < 0 ∨ (0 ≤ r ∧ r = left - (a2.size : Int))) := by
  have e1 : wrap64 (left - (a2.size : Int)) = left - (a2.size : Int) := w64 (by omega) (by omega)
  by_cases c1 : left - (a2.size : Int) < 0
  · refine ⟨-1, ev_const ?_, Or.inl (by decide)⟩
    simp only [laws_szEntry.f, e1, c1, if_true]
  · refine ⟨left - (a2.size : Int), ev_const ?_, Or.inr ⟨by omega, rfl⟩⟩
    simp only [laws_szEntry.f, e1, c1, if_false]
theorem laws_szEntryS_l0 (l : List (S34)) (hl : l.length ≤ 1048576) (hg : ∀ x : S34, x ∈ l → x.f2.size ≤ 9223372036854775807) : ∀ (d : Nat) (i left : Int), 0 ≤ i → i + d = l.length → 0 ≤ left → left ≤ 1048576 →
    ∃ r : Int, Ev (fun k => laws_szEntryS.l0 k l left i) r ∧ (r < 0 ∨ (0 ≤ r ∧ r ≤ left ∧ ∀ x : S34, x ∈ l.drop i.toNat → (x.f2.size : Int) ≤ left)) := by
  intro d
  induction d with
  | zero =>
    intro i left h0 h hl0 hl1
    refine ⟨left, ev_succ ?_, Or.inr ⟨hl0, Int.le_refl _, fun x hx => ?_⟩⟩
    · have c : ¬ i < (l.length : Int) := by omega
      simp only [laws_szEntryS.l0, c, if_false]
      exact Ev.now _
    · rw [List.drop_of_length_le (by omega)] at hx
      simp at hx
  | succ d ih =>
    intro i left h0 h hl0 hl1
    have c : i < (l.length : Int) := by omega
    have hd : l.drop i.toNat = rd_T34 l i :: l.drop (i + 1).toNat := drop_get l i h0 c z34
    have hm : rd_T34 l i ∈ l := List.mem_of_mem_drop (i := i.toNat) (by rw [hd]; exact List.mem_cons_self)
    have hq := hg _ hm
    obtain ⟨r, hr, hrr⟩ := laws_szEntry_ev (rd_T34 l i).f0 (rd_T34 l i).f1 (rd_T34 l i).f2 left hl0 hl1 hq
    have e : wrap64 (i + 1) = i + 1 := w64 (by omega) (by omega)
    by_cases hn : r < 0
    · refine ⟨-1, ev_succ ?_, Or.inl (by decide)⟩
      simp only [laws_szEntryS.l0, c, h0, if_true]
      refine Ev.bind hr ?_
      simp only [hn, if_true]
      exact Ev.now _
    · have hrr' := hrr.resolve_left hn
      obtain ⟨q, hq1, hq2⟩ := ih (i + 1) r (by omega) (by omega) hrr'.1 (by omega)
      refine ⟨q, ev_succ ?_, ?_⟩
      · simp only [laws_szEntryS.l0, c, h0, if_true, e]
        refine Ev.bind hr ?_
        simp only [hn, if_false]
        exact hq1
      · rcases hq2 with hq2 | ⟨hq2, hq3, hq4⟩
        · exact Or.inl hq2
        · refine Or.inr ⟨hq2, by omega, fun x hx => ?_⟩
          rw [hd] at hx
          rcases List.mem_cons.1 hx with rfl | hx
          · omega
          · have := hq4 x hx
            omega
theorem laws_szEntryS_ev (l : List (S34)) (left : Int) (h0 : 0 ≤ left) (h1 : left ≤ 1048576) (hl : l.length ≤ 9223372036854775807) (hg : ∀ x : S34, x ∈ l → x.f2.size ≤ 9223372036854775807) :
    ∃ r : Int, Ev (fun k => laws_szEntryS.f k l left) r ∧ (r < 0 ∨ (0 ≤ r ∧ r ≤ left ∧ (l.length : Int) ≤ left ∧ ∀ x : S34, x ∈ l → (x.f2.size : Int) ≤ left)) := by
  have e : wrap64 (left - (l.length : Int)) = left - (l.length : Int) := w64 (by omega) (by omega)
  by_cases c : left - (l.length : Int) < 0
  · refine ⟨-1, ?_, Or.inl (by decide)⟩
    simp only [laws_szEntryS.f, e, c, if_true]
    exact Ev.now _
  · obtain ⟨r, hr, hrr⟩ := laws_szEntryS_l0 l (by omega) hg l.length 0 (left - l.length) (by omega) (by omega) (by omega) (by omega)
    refine ⟨r, ?_, ?_⟩
    · simp only [laws_szEntryS.f, e, c, if_false]
      exact hr
    · rcases hrr with hrr | ⟨h2, h3, h4⟩
      · exact Or.inl hrr
      · refine Or.inr ⟨h2, by omega, by omega, fun x hx => ?_⟩
        have := h4 x (by simpa using hx)
        omega

def cvEntry (x : S34) : S37 := ⟨x.f0, x.f1, x.f2⟩
theorem laws_toEntry_ev (a0 : Int) (a1 : Int) (a2 : ByteArray) : Ev (fun _ => laws_toEntry.f a0 a1 a2) (a0, a1, a2) := ev_const rfl
theorem laws_toEntryS_ev (l : List (S34)) (hl : l.length ≤ 1048576) : Ev (fun k => laws_toEntryS.f k l) (l.map cvEntry) := by
  have c1 : 0 ≤ (l.length : Int) := by omega
  have c2 : ∀ n : Nat, 1048576 ≤ n → ((l.length : Int)).toNat ≤ n := fun n h => by omega
  simp only [laws_toEntryS.f, c1, if_true]
  rw [ev_if (c2 _ (by decide))]
  have key := loop_up (fun k (b : List (S37)) i => laws_toEntryS.l0 k l b i) (l.length : Int) (l.map cvEntry) (fun b i => b.length = l.length ∧ b.take i.toNat = (l.map cvEntry).take i.toNat)
    (fun b hs => by
      obtain ⟨hb, ht⟩ := hs
      have c : ¬ (l.length : Int) < (l.length : Int) := by omega
      simp only [laws_toEntryS.l0, c, if_false]
      apply ev_some
      rw [List.take_of_length_le (by omega), List.take_of_length_le (by rw [List.length_map]; omega)] at ht
      exact ht)
    (fun b i h0 h1 hs ih => by
      obtain ⟨hb, ht⟩ := hs
      have c : i < (b.length : Int) := by omega
      have e2 : wrap64 (i + 1) = i + 1 := w64 (by omega) (by omega)
      simp only [laws_toEntryS.l0, h1, h0, if_true, e2]
      refine Ev.bind (laws_toEntry_ev _ _ _) ?_
      simp only [c, if_true]
      refine ih _ ⟨by rw [List.length_set]; exact hb, ?_⟩
      rw [show (i + 1).toNat = i.toNat + 1 by omega]
      refine take_set (l.map cvEntry) b i.toNat _ (by rw [List.length_map]; exact hb) (by rw [List.length_map]; omega) ht ?_
      rw [List.getElem?_map, getElem_rd l i h0 h1 z34]
      rfl)
  exact key l.length 0 _ (by omega) (by omega) ⟨by simp, by simp⟩

theorem laws_eqEntry_ev (a0 : Int) (a1 : Int) (a2 : ByteArray) : Ev (fun _ => laws_eqEntry.f a0 a1 a2 a0 a1 a2) true := by
  apply ev_const
  simp [laws_eqEntry.f]
theorem laws_eqEntryS_ev (l : List (S37)) (hl : l.length ≤ 140737488355328) : Ev (fun k => laws_eqEntryS.f k l l) true := by
  simp only [laws_eqEntryS.f, if_true]
  have key := loop_up (fun k (_ : Unit) i => laws_eqEntryS.l0 k l l i) (l.length : Int) true (fun _ _ => True)
    (fun _ _ => by
      have c : ¬ (l.length : Int) < (l.length : Int) := by omega
      simp only [laws_eqEntryS.l0, c, if_false]
      exact Ev.now _)
    (fun _ i h0 h1 _ ih => by
      have e2 : wrap64 (i + 1) = i + 1 := w64 (by omega) (by omega)
      simp only [laws_eqEntryS.l0, h1, h0, if_true, e2]
      refine Ev.bind (laws_eqEntry_ev _ _ _) ?_
      simp only [if_true]
      exact ih () trivial)
  exact key l.length 0 () (by omega) (by omega) trivial

theorem laws_szLog_ev (a b : Int) (l : List (S34)) (left : Int) (h0 : 0 ≤ left) (h1 : left ≤ 1048576) (hl : l.length ≤ 9223372036854775807) (hg : ∀ x : S34, x ∈ l → x.f2.size ≤ 9223372036854775807) :
    ∃ r : Int, Ev (fun k => laws_szLog.f k a b l left) r ∧ (r < 0 ∨ (0 ≤ r ∧ r ≤ left ∧ (l.length : Int) ≤ left ∧ ∀ x : S34, x ∈ l → (x.f2.size : Int) ≤ left)) := by
  obtain ⟨r, hr, hrr⟩ := laws_szEntryS_ev l left h0 h1 hl hg
  refine ⟨if r < 0 then -1 else r, ?_, ?_⟩
  · simp only [laws_szLog.f]
    refine Ev.bind hr ?_
    by_cases c : r < 0 <;> simp [c]
  · rcases hrr with h | h
    · rw [if_pos h]; exact Or.inl (by decide)
    · rw [if_neg (by omega)]; exact Or.inr h
theorem laws_toLog_ev (a b : Int) (l : List (S34)) (hl : l.length ≤ 1048576) : Ev (fun k => laws_toLog.f k a b l) (a, b, l.map cvEntry) := by
  simp only [laws_toLog.f]
  exact Ev.bind (laws_toEntryS_ev l hl) (Ev.now _)
theorem laws_eqLog_ev (a b : Int) (l : List (S37)) (hl : l.length ≤ 140737488355328) : Ev (fun k => laws_eqLog.f k a b l a b l) true := by
  simp only [laws_eqLog.f, if_true]
  refine Ev.bind (laws_eqEntryS_ev l hl) ?_
  simp

theorem LogLast_ev (a b : Int) (l : List (S37)) (hl : l.length ≤ 1048576) : ∃ r, Ev (fun _ => spec_LogLast.f a b l) r ∧ Ev (fun _ => impl_LogLast.f a b l) r := by
  by_cases c : (l.length : Int) = 0
  · exact ⟨(a, b), ev_const (by simp only [spec_LogLast.f, c, if_true]), ev_const (by simp only [impl_LogLast.f, c, if_true])⟩
  · have e : wrap64 ((l.length : Int) - 1) = l.length - 1 := w64 (by omega) (by omega)
    have c1 : 0 ≤ (l.length : Int) - 1 := by omega
    have c2 : (l.length : Int) - 1 < l.length := by omega
    refine ⟨(wrap64 (a + l.length), (rd_T37 l ((l.length : Int) - 1)).f0), ev_const ?_, ev_const ?_⟩
    · simp only [spec_LogLast.f, c, if_false, e, c1, c2, if_true]
    · simp only [impl_LogLast.f, c, if_false, e, c1, c2, if_true]

theorem FnExactLogLast : OpenFnExactLogLast.Stmt := by
  intro a b l ha hb hl
  apply ev_rounds
  simp only [laws_FnExactLogLast.f]
  obtain ⟨r, hr, hrr⟩ := laws_szLog_ev a b l 1048576 (by decide) (by decide) hl.1 (fun x hx => (hl.2 x hx).2.2)
  refine Ev.bind hr ?_
  rcases hrr with hn | ⟨hn, hle, hll, hg⟩
  · simp only [hn, if_true]
    exact Ev.now _
  · have hn' : ¬ r < 0 := by omega
    simp only [hn', if_false]
    have hlen : l.length ≤ 1048576 := by omega
    have ht := laws_toLog_ev a b l hlen
    obtain ⟨q, hq1, hq2⟩ := LogLast_ev a b (l.map cvEntry) (by simpa using hlen)
    refine Ev.bind ht ?_
    refine Ev.bind hq1 ?_
    refine Ev.bind ht ?_
    refine Ev.bind hq2 ?_
    simp only [if_true, bne_self_eq_false]
    apply ev_succ
    simp only [laws_FnExactLogLast.j0, Bool.false_eq_true, if_false]
    refine Ev.bind ht ?_
    refine Ev.bind (laws_eqLog_ev a b _ (by rw [List.length_map]; omega)) ?_
    simp

end Go.Proofs.Ytfccdecalkabhaa.Pure
