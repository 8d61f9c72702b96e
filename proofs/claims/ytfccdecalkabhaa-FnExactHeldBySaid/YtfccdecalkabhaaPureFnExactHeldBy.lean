/- HeldBy of the program and of the reference give the same number for every ring, which stays as it is. -/
import Derived.Test.YtfccdecalkabhaaOpenFnExactHeldBy
import Derived.Test.YtfccdecalkabhaaBaseL
namespace Go.Proofs.Ytfccdecalkabhaa.Pure
open Go.RowKit Go.Proofs.Ytfccdecalkabhaa.PFnExactHeldBy Go.Proofs.YtfccdecalkabhaaW.PrintWords Go.Proofs.YtfccdecalkabhaaW.PrintLast Go.Proofs.YtfccdecalkabhaaW.PrintMore Go.Proofs.Ytfccdecalkabhaa.Base
set_option linter.unusedVariables false
set_option linter.unusedSimpArgs false

def held1 (l : List (S105)) : Nat := (l.filter fun x => decide (x.f0 = 1)).length
theorem held1_snoc (l : List (S105)) (i : Int) (h0 : 0 ≤ i) (h1 : i < l.length) : held1 (l.take (i + 1).toNat) = held1 (l.take i.toNat) + if (rd_T105 l i).f0 = 1 then 1 else 0 := by
  have hl : i.toNat < l.length := by omega
  rw [show (i + 1).toNat = i.toNat + 1 by omega, List.take_add_one, getElem_rd l i h0 h1 z105, held1, held1, List.filter_append, List.length_append]
  show _ + (List.filter (fun x => decide (x.f0 = 1)) [rd_T105 l i]).length = _
  by_cases h : (rd_T105 l i).f0 = 1 <;> simp [h]
theorem held1_le (l : List (S105)) : held1 l ≤ l.length := List.length_filter_le _ _
theorem spec_HeldBy_ev (l : List (S105)) (a b : Int) (hl : l.length ≤ 1048576) : Ev (fun k => spec_HeldBy.f k l a b) (held1 l : Int) := by
  simp only [spec_HeldBy.f]
  have key := loop_up (fun k (x : Int) i => spec_HeldBy.l0 k x i l a b) (l.length : Int) (held1 l : Int) (fun x i => x = held1 (l.take i.toNat))
    (fun x hx => by
      rw [List.take_of_length_le (by omega)] at hx
      have c : ¬ (l.length : Int) < (l.length : Int) := by omega
      simp only [spec_HeldBy.l0, c, if_false]
      exact ev_some hx)
    (fun x i h0 h1 hx ih => by
      have hle := held1_le (l.take i.toNat)
      rw [List.length_take] at hle
      have hs := held1_snoc l i h0 h1
      have e1 : wrap64 (x + 1) = x + 1 := w64 (by omega) (by omega)
      have e2 : wrap64 (i + 1) = i + 1 := w64 (by omega) (by omega)
      by_cases hc : (rd_T105 l i).f0 = 1
      · simp only [spec_HeldBy.l0, h1, h0, hc, if_true, e1, e2]
        rw [if_pos hc] at hs
        exact ih _ (by rw [hs, hx]; simp)
      · simp only [spec_HeldBy.l0, h1, h0, hc, if_true, if_false, e2]
        rw [if_neg hc] at hs
        exact ih _ (by rw [hs, hx]; simp))
  exact key l.length 0 0 (by omega) (by omega) (by simp [held1])
theorem impl_HeldBy_ev (l : List (S105)) (a b : Int) (hl : l.length ≤ 1048576) : Ev (fun k => impl_HeldBy.f k l a b) (held1 l : Int) := by
  simp only [impl_HeldBy.f]
  have key := loop_up (fun k (x : Int) i => impl_HeldBy.l0 k x l (l.length : Int) i) (l.length : Int) (held1 l : Int) (fun x i => x = held1 (l.take i.toNat))
    (fun x hx => by
      rw [List.take_of_length_le (by omega)] at hx
      have c : ¬ (l.length : Int) < (l.length : Int) := by omega
      simp only [impl_HeldBy.l0, c, if_false]
      exact ev_some hx)
    (fun x i h0 h1 hx ih => by
      have hle := held1_le (l.take i.toNat)
      rw [List.length_take] at hle
      have hs := held1_snoc l i h0 h1
      have e1 : wrap64 (x + 1) = x + 1 := w64 (by omega) (by omega)
      have e2 : wrap64 (i + 1) = i + 1 := w64 (by omega) (by omega)
      by_cases hc : (rd_T105 l i).f0 = 1
      · simp only [impl_HeldBy.l0, h1, h0, hc, if_true, e1, e2]
        rw [if_pos hc] at hs
        exact ih _ (by rw [hs, hx]; simp)
      · simp only [impl_HeldBy.l0, h1, h0, hc, if_true, if_false, e2]
        rw [if_neg hc] at hs
        exact ih _ (by rw [hs, hx]; simp))
  exact key l.length 0 0 (by omega) (by omega) (by simp [held1])

theorem laws_szSlot_ev (a0 : Int) (a1 : ByteArray) (left : Int) (h0 : 0 ≤ left) (h1 : left ≤ 1048576) (g1 : a1.size ≤ 9223372036854775807) : ∃ r : Int, Ev (fun _ => laws_szSlot.f a0 a1 left) r ∧ (r < 0 ∨ (0 ≤ r ∧ r = left - (a1.size : Int))) := by
  have e1 : wrap64 (left - (a1.size : Int)) = left - (a1.size : Int) := w64 (by omega) (by omega)
  by_cases c1 : left - (a1.size : Int) < 0
  · refine ⟨-1, ev_const ?_, Or.inl (by decide)⟩
    simp only [laws_szSlot.f, e1, c1, if_true]
  · refine ⟨left - (a1.size : Int), ev_const ?_, Or.inr ⟨by omega, rfl⟩⟩
    simp only [laws_szSlot.f, e1, c1, if_false]
theorem laws_szSlotS_l0 (l : List (S122)) (hl : l.length ≤ 1048576) (hg : ∀ x : S122, x ∈ l → x.f1.size ≤ 9223372036854775807) : ∀ (d : Nat) (i left : Int), 0 ≤ i → i + d = l.length → 0 ≤ left → left ≤ 1048576 →
    ∃ r : Int, Ev (fun k => laws_szSlotS.l0 k l left i) r ∧ (r < 0 ∨ (0 ≤ r ∧ r ≤ left ∧ ∀ x : S122, x ∈ l.drop i.toNat → (x.f1.size : Int) ≤ left)) := by
  intro d
  induction d with
  | zero =>
    intro i left h0 h hl0 hl1
    refine ⟨left, ev_succ ?_, Or.inr ⟨hl0, Int.le_refl _, fun x hx => ?_⟩⟩
    · have c : ¬ i < (l.length : Int) := by omega
      simp only [laws_szSlotS.l0, c, if_false]
      exact Ev.now _
    · rw [List.drop_of_length_le (by omega)] at hx
      simp at hx
  | succ d ih =>
    intro i left h0 h hl0 hl1
    have c : i < (l.length : Int) := by omega
    have hd : l.drop i.toNat = rd_T122 l i :: l.drop (i + 1).toNat := drop_get l i h0 c z122
    have hm : rd_T122 l i ∈ l := List.mem_of_mem_drop (i := i.toNat) (by rw [hd]; exact List.mem_cons_self)
    have hq := hg _ hm
    obtain ⟨r, hr, hrr⟩ := laws_szSlot_ev (rd_T122 l i).f0 (rd_T122 l i).f1 left hl0 hl1 hq
    have e : wrap64 (i + 1) = i + 1 := w64 (by omega) (by omega)
    by_cases hn : r < 0
    · refine ⟨-1, ev_succ ?_, Or.inl (by decide)⟩
      simp only [laws_szSlotS.l0, c, h0, if_true]
      refine Ev.bind hr ?_
      simp only [hn, if_true]
      exact Ev.now _
    · have hrr' := hrr.resolve_left hn
      obtain ⟨q, hq1, hq2⟩ := ih (i + 1) r (by omega) (by omega) hrr'.1 (by omega)
      refine ⟨q, ev_succ ?_, ?_⟩
      · simp only [laws_szSlotS.l0, c, h0, if_true, e]
        refine Ev.bind hr ?_
        simp only [hn, if_false]
        exact hq1
      · rcases hq2 with hq2 | ⟨hq2, hq3, hq4⟩
        · exact Or.inl hq2
        · refine Or.inr ⟨hq2, by omega, fun x hx => ?_⟩
          rw [hd] at hx
          rcases List.mem_cons.1 hx with rfl | hx
          · omega
          · have := hq4 x hx
            omega
theorem laws_szSlotS_ev (l : List (S122)) (left : Int) (h0 : 0 ≤ left) (h1 : left ≤ 1048576) (hl : l.length ≤ 9223372036854775807) (hg : ∀ x : S122, x ∈ l → x.f1.size ≤ 9223372036854775807) :
    ∃ r : Int, Ev (fun k => laws_szSlotS.f k l left) r ∧ (r < 0 ∨ (0 ≤ r ∧ r ≤ left ∧ (l.length : Int) ≤ left ∧ ∀ x : S122, x ∈ l → (x.f1.size : Int) ≤ left)) := by
  have e : wrap64 (left - (l.length : Int)) = left - (l.length : Int) := w64 (by omega) (by omega)
  by_cases c : left - (l.length : Int) < 0
  · refine ⟨-1, ?_, Or.inl (by decide)⟩
    simp only [laws_szSlotS.f, e, c, if_true]
    exact Ev.now _
  · obtain ⟨r, hr, hrr⟩ := laws_szSlotS_l0 l (by omega) hg l.length 0 (left - l.length) (by omega) (by omega) (by omega) (by omega)
    refine ⟨r, ?_, ?_⟩
    · simp only [laws_szSlotS.f, e, c, if_false]
      exact hr
    · rcases hrr with hrr | ⟨h2, h3, h4⟩
      · exact Or.inl hrr
      · refine Or.inr ⟨h2, by omega, by omega, fun x hx => ?_⟩
        have := h4 x (by simpa using hx)
        omega

def cvSlot (x : S122) : S105 := ⟨x.f0, x.f1⟩
theorem laws_toSlot_ev (a0 : Int) (a1 : ByteArray) : Ev (fun _ => laws_toSlot.f a0 a1) (a0, a1) := ev_const rfl
theorem laws_toSlotS_ev (l : List (S122)) (hl : l.length ≤ 1048576) : Ev (fun k => laws_toSlotS.f k l) (l.map cvSlot) := by
  have c1 : 0 ≤ (l.length : Int) := by omega
  have c2 : ∀ n : Nat, 1048576 ≤ n → ((l.length : Int)).toNat ≤ n := fun n h => by omega
  simp only [laws_toSlotS.f, c1, if_true]
  rw [ev_if (c2 _ (by decide))]
  have key := loop_up (fun k (b : List (S105)) i => laws_toSlotS.l0 k l b i) (l.length : Int) (l.map cvSlot) (fun b i => b.length = l.length ∧ b.take i.toNat = (l.map cvSlot).take i.toNat)
    (fun b hs => by
      obtain ⟨hb, ht⟩ := hs
      have c : ¬ (l.length : Int) < (l.length : Int) := by omega
      simp only [laws_toSlotS.l0, c, if_false]
      apply ev_some
      rw [List.take_of_length_le (by omega), List.take_of_length_le (by rw [List.length_map]; omega)] at ht
      exact ht)
    (fun b i h0 h1 hs ih => by
      obtain ⟨hb, ht⟩ := hs
      have c : i < (b.length : Int) := by omega
      have e2 : wrap64 (i + 1) = i + 1 := w64 (by omega) (by omega)
      simp only [laws_toSlotS.l0, h1, h0, if_true, e2]
      refine Ev.bind (laws_toSlot_ev _ _) ?_
      simp only [c, if_true]
      refine ih _ ⟨by rw [List.length_set]; exact hb, ?_⟩
      rw [show (i + 1).toNat = i.toNat + 1 by omega]
      refine take_set (l.map cvSlot) b i.toNat _ (by rw [List.length_map]; exact hb) (by rw [List.length_map]; omega) ht ?_
      rw [List.getElem?_map, getElem_rd l i h0 h1 z122]
      rfl)
  exact key l.length 0 _ (by omega) (by omega) ⟨by simp, by simp⟩

theorem laws_eqSlot_ev (a0 : Int) (a1 : ByteArray) : Ev (fun _ => laws_eqSlot.f a0 a1 a0 a1) true := by
  apply ev_const
  simp [laws_eqSlot.f]
theorem laws_eqSlotS_ev (l : List (S105)) (hl : l.length ≤ 140737488355328) : Ev (fun k => laws_eqSlotS.f k l l) true := by
  simp only [laws_eqSlotS.f, if_true]
  have key := loop_up (fun k (_ : Unit) i => laws_eqSlotS.l0 k l l i) (l.length : Int) true (fun _ _ => True)
    (fun _ _ => by
      have c : ¬ (l.length : Int) < (l.length : Int) := by omega
      simp only [laws_eqSlotS.l0, c, if_false]
      exact Ev.now _)
    (fun _ i h0 h1 _ ih => by
      have e2 : wrap64 (i + 1) = i + 1 := w64 (by omega) (by omega)
      simp only [laws_eqSlotS.l0, h1, h0, if_true, e2]
      refine Ev.bind (laws_eqSlot_ev _ _) ?_
      simp only [if_true]
      exact ih () trivial)
  exact key l.length 0 () (by omega) (by omega) trivial

theorem laws_szRing_ev (l : List (S122)) (a b left : Int) (h0 : 0 ≤ left) (h1 : left ≤ 1048576) (hl : l.length ≤ 9223372036854775807) (hg : ∀ x : S122, x ∈ l → x.f1.size ≤ 9223372036854775807) :
    ∃ r : Int, Ev (fun k => laws_szRing.f k l a b left) r ∧ (r < 0 ∨ (0 ≤ r ∧ r ≤ left ∧ (l.length : Int) ≤ left ∧ ∀ x : S122, x ∈ l → (x.f1.size : Int) ≤ left)) := by
  obtain ⟨r, hr, hrr⟩ := laws_szSlotS_ev l left h0 h1 hl hg
  refine ⟨if r < 0 then -1 else r, ?_, ?_⟩
  · simp only [laws_szRing.f]
    refine Ev.bind hr ?_
    by_cases c : r < 0 <;> simp [c]
  · rcases hrr with h | h
    · rw [if_pos h]; exact Or.inl (by decide)
    · rw [if_neg (by omega)]; exact Or.inr h
theorem laws_toRing_ev (l : List (S122)) (a b : Int) (hl : l.length ≤ 1048576) : Ev (fun k => laws_toRing.f k l a b) (l.map cvSlot, a, b) := by
  simp only [laws_toRing.f]
  exact Ev.bind (laws_toSlotS_ev l hl) (Ev.now _)
theorem laws_eqRing_ev (l : List (S105)) (a b : Int) (hl : l.length ≤ 140737488355328) : Ev (fun k => laws_eqRing.f k l a b l a b) true := by
  simp only [laws_eqRing.f]
  refine Ev.bind (laws_eqSlotS_ev l hl) ?_
  simp

theorem FnExactHeldBy : OpenFnExactHeldBy.Stmt := by
  intro l a b hl ha hb
  apply ev_rounds
  simp only [laws_FnExactHeldBy.f]
  obtain ⟨r, hr, hrr⟩ := laws_szRing_ev l a b 1048576 (by decide) (by decide) hl.1 (fun x hx => (hl.2 x hx).2)
  refine Ev.bind hr ?_
  rcases hrr with hn | ⟨hn, hle, hll, hg⟩
  · simp only [hn, if_true]
    exact Ev.now _
  · have hn' : ¬ r < 0 := by omega
    simp only [hn', if_false]
    have hlen : l.length ≤ 1048576 := by omega
    have ht := laws_toRing_ev l a b hlen
    refine Ev.bind ht ?_
    refine Ev.bind (spec_HeldBy_ev _ _ _ (by simpa using hlen)) ?_
    refine Ev.bind ht ?_
    refine Ev.bind (impl_HeldBy_ev _ _ _ (by simpa using hlen)) ?_
    simp only [if_true]
    refine Ev.bind ht ?_
    refine Ev.bind (laws_eqRing_ev _ _ _ (by rw [List.length_map]; omega)) ?_
    simp

end Go.Proofs.Ytfccdecalkabhaa.Pure
