/- RingOk of the program and of the reference answer the same for every ring, which stays as it is. -/
import Derived.Test.YtfccdecalkabhaaOpenFnExactRingOk
import Derived.Test.YtfccdecalkabhaaBaseL
namespace Go.Proofs.Ytfccdecalkabhaa.Pure
open Go.RowKit Go.Proofs.Ytfccdecalkabhaa.QFnExactRingOk Go.Proofs.YtfccdecalkabhaaW.PrintWords Go.Proofs.YtfccdecalkabhaaW.PrintLast Go.Proofs.YtfccdecalkabhaaW.PrintMore Go.Proofs.Ytfccdecalkabhaa.Base
set_option linter.unusedVariables false
set_option linter.unusedSimpArgs false

theorem laws_szSlot_ev (a0 : Int) (a1 : ByteArray) (left : Int) (h0 : 0 ≤ left) (h1 : left ≤ 1048576) (g1 : a1.size ≤ 9223372036854775807) : ∃ r : Int, Ev (fun _ => laws_szSlot.f a0 a1 left) r ∧ (r < 0 ∨ (0 ≤ r ∧ r = left - (a1.size : Int))) := by
  have e1 : wrap64 (left - (a1.size : Int)) = left - (a1.size : Int) := w64 (by omega) (by omega)
  by_cases c1 : left - (a1.size : Int) < 0
  · refine ⟨-1, ev_const ?_, Or.inl (by decide)⟩
    simp only [laws_szSlot.f, e1, c1, if_true]
  · refine ⟨left - (a1.size : Int), ev_const ?_, Or.inr ⟨by omega, rfl⟩⟩
    simp only [laws_szSlot.f, e1, c1, if_false]
theorem laws_szSlotS_l0 (l : List (S122)) (hl : l.length ≤ 1048576) (hg : ∀ x : S122, x ∈ l → x.f1.size ≤ 9223372036854775807) : ∀ (d : Nat) (i left : Int), 0 ≤ i → i + d = l.length → 0 ≤ left → left ≤ 1048576 →
    ∃ r : Int, Ev (fun k => laws_szSlotS.l0 k l left i) r ∧ (r < 0 ∨ (0 ≤ r ∧ r ≤ left ∧ ∀ x : S122, x ∈ l.drop i.toNat → (x.f1.size : Int) ≤ left)) := by
  intro d
  induction d with
  | zero =>
    intro i left h0 h hl0 hl1
    refine ⟨left, ev_succ ?_, Or.inr ⟨hl0, Int.le_refl _, fun x hx => ?_⟩⟩
    · have c : ¬ i < (l.length : Int) := by omega
      simp only [laws_szSlotS.l0, c, if_false]
      exact Ev.now _
    · rw [List.drop_of_length_le (by omega)] at hx
      simp at hx
  | succ d ih =>
    intro i left h0 h hl0 hl1
    have c : i < (l.length : Int) := by omega
    have hd : l.drop i.toNat = rd_T122 l i :: l.drop (i + 1).toNat := drop_get l i h0 c z122
    have hm : rd_T122 l i ∈ l := List.mem_of_mem_drop (i := i.toNat) (by rw [hd]; exact List.mem_cons_self)
    have hq := hg _ hm
    obtain ⟨r, hr, hrr⟩ := laws_szSlot_ev (rd_T122 l i).f0 (rd_T122 l i).f1 left hl0 hl1 hq
    have e : wrap64 (i + 1) = i + 1 := w64 (by omega) (by omega)
    by_cases hn : r < 0
    · refine ⟨-1, ev_succ ?_, Or.inl (by decide)⟩
      simp only [laws_szSlotS.l0, c, h0, if_true]
      refine Ev.bind hr ?_
      simp only [hn, if_true]
      exact Ev.now _
    · have hrr' := hrr.resolve_left hn
      obtain ⟨q, hq1, hq2⟩ := ih (i + 1) r (by omega) (by omega) hrr'.1 (by omega)
      refine ⟨q, ev_succ ?_, ?_⟩
      · simp only [laws_szSlotS.l0, c, h0, if_true, e]
        refine Ev.bind hr ?_
        simp only [hn, if_false]
        exact hq1
      · rcases hq2 with hq2 | ⟨hq2, hq3, hq4⟩
        · exact Or.inl hq2
        · refine Or.inr ⟨hq2, by omega, fun x hx => ?_⟩
          rw [hd] at hx
          rcases List.mem_cons.1 hx with rfl | hx
          · omega
          · have := hq4 x hx
            omega
theorem laws_szSlotS_ev (l : List (S122)) (left : Int) (h0 : 0 ≤ left) (h1 : left ≤ 1048576) (hl : l.length ≤ 9223372036854775807) (hg : ∀ x : S122, x ∈ l → x.f1.size ≤ 9223372036854775807) :
    ∃ r : Int, Ev (fun k => laws_szSlotS.f k l left) r ∧ (r < 0 ∨ (0 ≤ r ∧ r ≤ left ∧ (l.length : Int) ≤ left ∧ ∀ x : S122, x ∈ l → (x.f1.size : Int) ≤ left)) := by
  have e : wrap64 (left - (l.length : Int)) = left - (l.length : Int) := w64 (by omega) (by omega)
  by_cases c : left - (l.length : Int) < 0
  · refine ⟨-1, ?_, Or.inl (by decide)⟩
    simp only [laws_szSlotS.f, e, c, if_true]
    exact Ev.now _
  · obtain ⟨r, hr, hrr⟩ := laws_szSlotS_l0 l (by omega) hg l.length 0 (left - l.length) (by omega) (by omega) (by omega) (by omega)
    refine ⟨r, ?_, ?_⟩
    · simp only [laws_szSlotS.f, e, c, if_false]
      exact hr
    · rcases hrr with hrr | ⟨h2, h3, h4⟩
      · exact Or.inl hrr
      · refine Or.inr ⟨h2, by omega, by omega, fun x hx => ?_⟩
        have := h4 x (by simpa using hx)
        omega

def cvSlot (x : S122) : S105 := ⟨x.f0, x.f1⟩
theorem laws_toSlot_ev (a0 : Int) (a1 : ByteArray) : Ev (fun _ => laws_toSlot.f a0 a1) (a0, a1) := ev_const rfl
theorem laws_toSlotS_ev (l : List (S122)) (hl : l.length ≤ 1048576) : Ev (fun k => laws_toSlotS.f k l) (l.map cvSlot) := by
  have c1 : 0 ≤ (l.length : Int) := by omega
  have c2 : ∀ n : Nat, 1048576 ≤ n → ((l.length : Int)).toNat ≤ n := fun n h => by omega
  simp only [laws_toSlotS.f, c1, if_true]
  rw [ev_if (c2 _ (by decide))]
  have key := loop_up (fun k (b : List (S105)) i => laws_toSlotS.l0 k l b i) (l.length : Int) (l.map cvSlot) (fun b i => b.length = l.length ∧ b.take i.toNat = (l.map cvSlot).take i.toNat)
    (fun b hs => by
      obtain ⟨hb, ht⟩ := hs
      have c : ¬ (l.length : Int) < (l.length : Int) := by omega
      simp only [laws_toSlotS.l0, c, if_false]
      apply ev_some
      rw [List.take_of_length_le (by omega), List.take_of_length_le (by rw [List.length_map]; omega)] at ht
      exact ht)
    (fun b i h0 h1 hs ih => by
      obtain ⟨hb, ht⟩ := hs
      have c : i < (b.length : Int) := by omega
      have e2 : wrap64 (i + 1) = i + 1 := w64 (by omega) (by omega)
      simp only [laws_toSlotS.l0, h1, h0, if_true, e2]
      refine Ev.bind (laws_toSlot_ev _ _) ?_
      simp only [c, if_true]
      refine ih _ ⟨by rw [List.length_set]; exact hb, ?_⟩
      rw [show (i + 1).toNat = i.toNat + 1 by omega]
      refine take_set (l.map cvSlot) b i.toNat _ (by rw [List.length_map]; exact hb) (by rw [List.length_map]; omega) ht ?_
      rw [List.getElem?_map, getElem_rd l i h0 h1 z122]
      rfl)
  exact key l.length 0 _ (by omega) (by omega) ⟨by simp, by simp⟩

theorem laws_eqSlot_ev (a0 : Int) (a1 : ByteArray) : Ev (fun _ => laws_eqSlot.f a0 a1 a0 a1) true := by
  apply ev_const
  simp [laws_eqSlot.f]
theorem laws_eqSlotS_ev (l : List (S105)) (hl : l.length ≤ 140737488355328) : Ev (fun k => laws_eqSlotS.f k l l) true := by
  simp only [laws_eqSlotS.f, if_true]
  have key := loop_up (fun k (_ : Unit) i => laws_eqSlotS.l0 k l l i) (l.length : Int) true (fun _ _ => True)
    (fun _ _ => by
      have c : ¬ (l.length : Int) < (l.length : Int) := by omega
      simp only [laws_eqSlotS.l0, c, if_false]
      exact Ev.now _)
    (fun _ i h0 h1 _ ih => by
      have e2 : wrap64 (i + 1) = i + 1 := w64 (by omega) (by omega)
      simp only [laws_eqSlotS.l0, h1, h0, if_true, e2]
      refine Ev.bind (laws_eqSlot_ev _ _) ?_
      simp only [if_true]
      exact ih () trivial)
  exact key l.length 0 () (by omega) (by omega) trivial

theorem laws_szRing_ev (l : List (S122)) (a b left : Int) (h0 : 0 ≤ left) (h1 : left ≤ 1048576) (hl : l.length ≤ 9223372036854775807) (hg : ∀ x : S122, x ∈ l → x.f1.size ≤ 9223372036854775807) :
    ∃ r : Int, Ev (fun k => laws_szRing.f k l a b left) r ∧ (r < 0 ∨ (0 ≤ r ∧ r ≤ left ∧ (l.length : Int) ≤ left ∧ ∀ x : S122, x ∈ l → (x.f1.size : Int) ≤ left)) := by
  obtain ⟨r, hr, hrr⟩ := laws_szSlotS_ev l left h0 h1 hl hg
  refine ⟨if r < 0 then -1 else r, ?_, ?_⟩
  · simp only [laws_szRing.f]
    refine Ev.bind hr ?_
    by_cases c : r < 0 <;> simp [c]
  · rcases hrr with h | h
    · rw [if_pos h]; exact Or.inl (by decide)
    · rw [if_neg (by omega)]; exact Or.inr h
theorem laws_toRing_ev (l : List (S122)) (a b : Int) (hl : l.length ≤ 1048576) : Ev (fun k => laws_toRing.f k l a b) (l.map cvSlot, a, b) := by
  simp only [laws_toRing.f]
  exact Ev.bind (laws_toSlotS_ev l hl) (Ev.now _)
theorem laws_eqRing_ev (l : List (S105)) (a b : Int) (hl : l.length ≤ 140737488355328) : Ev (fun k => laws_eqRing.f k l a b l a b) true := by
  simp only [laws_eqRing.f]
  refine Ev.bind (laws_eqSlotS_ev l hl) ?_
  simp

theorem impl_within_ev (a b c : Int) : Ev (fun _ => impl_within.f a b c) (decide (b ≤ a ∧ a ≤ c)) := by
  apply ev_const
  unfold impl_within.f
  by_cases h : a ≥ b
  · rw [if_pos h]; simp [show b ≤ a from h]
  · rw [if_neg h]; simp [show ¬ b ≤ a from h]

def okUp (P : Int → Bool) : Int → Nat → Bool
  | _, 0 => true
  | i, d + 1 => P i && okUp P (i + 1) d
def pSlot (l : List (S105)) (tail held i : Int) : Bool :=
  if i < held then decide ((rd_T105 l ((tail + i) % l.length)).f0 = 1) && decide (1 ≤ (rd_T105 l ((tail + i) % l.length)).f1.size ∧ (rd_T105 l ((tail + i) % l.length)).f1.size ≤ 100)
  else decide ((rd_T105 l ((tail + i) % l.length)).f0 = 0) && ((rd_T105 l ((tail + i) % l.length)).f1.toList == ([] : List UInt8))
def pHeld (l : List (S105)) (head tail : Int) : Int :=
  if (head - tail + l.length) % l.length = 0 ∧ (rd_T105 l head).f0 = 1 then l.length else (head - tail + l.length) % l.length
def ringIn (l : List (S105)) (head tail : Int) : Prop := (1 ≤ l.length ∧ l.length ≤ 8) ∧ (0 ≤ head ∧ head ≤ l.length - 1) ∧ (0 ≤ tail ∧ tail ≤ l.length - 1)
instance (l : List (S105)) (head tail : Int) : Decidable (ringIn l head tail) := by unfold ringIn; infer_instance
def pRingOk (l : List (S105)) (head tail : Int) : Bool := decide (ringIn l head tail) && okUp (pSlot l tail (pHeld l head tail)) 0 l.length
theorem ring_tmod {x n : Int} (h0 : 0 ≤ x) : Int.tmod x n = x % n := Int.tmod_eq_emod_of_nonneg h0

theorem impl_RingOk_l0 (l : List (S105)) (head tail held : Int) (h1 : 1 ≤ l.length) (h8 : l.length ≤ 8) (ht : 0 ≤ tail ∧ tail ≤ l.length - 1) : ∀ (d : Nat) (i : Int), 0 ≤ i → i + d = l.length →
    Ev (fun k => impl_RingOk.l0 k (l.length : Int) held (l.length : Int) i l head tail) (okUp (pSlot l tail held) i d) := by
  intro d
  induction d with
  | zero =>
    intro i h0 h
    apply ev_succ
    have c : ¬ i < (l.length : Int) := by omega
    simp only [impl_RingOk.l0, c, if_false]
    exact Ev.now _
  | succ d ih =>
    intro i h0 h
    apply ev_succ
    have c : i < (l.length : Int) := by omega
    have cz : ¬ (l.length : Int) = 0 := by omega
    have e1 : wrap64 (i + 1) = i + 1 := w64 (by omega) (by omega)
    have e2 : wrap64 (tail + i) = tail + i := w64 (by omega) (by omega)
    have e3 : Int.tmod (tail + i) (l.length : Int) = (tail + i) % l.length := ring_tmod (by omega)
    have k1 : 0 ≤ (tail + i) % (l.length : Int) := Int.emod_nonneg _ (by omega)
    have k2 : (tail + i) % (l.length : Int) < (l.length : Int) := Int.emod_lt_of_pos _ (by omega)
    have hh := ih (i + 1) (by omega) (by omega)
    have hs : rd_T105 l ((tail + i) % l.length) = rd_T105 l ((tail + i) % l.length) := rfl
    simp only [impl_RingOk.l0, c, cz, if_true, if_false, e1, e2, e3, k1, k2]
    obtain ⟨s, hs⟩ : ∃ s, rd_T105 l ((tail + i) % l.length) = s := ⟨_, rfl⟩
    rw [hs]
    clear k1 k2 e1 e2 e3
    by_cases hi : i < held
    · have hS1 : pSlot l tail held i = (decide (s.f0 = 1) && decide (1 ≤ s.f1.size ∧ s.f1.size ≤ 100)) := by rw [pSlot, if_pos hi, hs]
      have hge : ¬ i ≥ held := by omega
      by_cases b1 : s.f0 = 1
      · simp only [hi, b1, if_true]
        refine Ev.bind (impl_within_ev _ _ _) ?_
        by_cases b2 : 1 ≤ s.f1.size ∧ s.f1.size ≤ 100
        · have b2' : 1 ≤ (s.f1.size : Int) ∧ (s.f1.size : Int) ≤ 100 := by omega
          simp only [b2', and_self, decide_true, if_true, hge, if_false]
          rw [okUp, hS1, b1]
          simpa [b2] using hh
        · have b2' : ¬ (1 ≤ (s.f1.size : Int) ∧ (s.f1.size : Int) ≤ 100) := by omega
          simp only [b2', decide_false, Bool.false_eq_true, if_false]
          apply ev_some
          rw [okUp, hS1, decide_eq_false b2, Bool.and_false, Bool.false_and]
      · simp only [hi, b1, if_true, if_false]
        apply ev_some
        rw [okUp, hS1, decide_eq_false b1, Bool.false_and, Bool.false_and]
    · have hS1 : pSlot l tail held i = (decide (s.f0 = 0) && (s.f1.toList == ([] : List UInt8))) := by rw [pSlot, if_neg hi, hs]
      have hge : i ≥ held := by omega
      have hb : (!(s.f0 == 0) || (!(s.f1.toList == ([] : List UInt8)))) = !(decide (s.f0 = 0) && (s.f1.toList == ([] : List UInt8))) := by
        by_cases b1 : s.f0 = 0 <;> simp [b1]
      have hfin : Ev (fun k => if (!(s.f0 == 0) || (!(s.f1.toList == ([] : List UInt8)))) = true then some false else impl_RingOk.l0 k (l.length : Int) held (l.length : Int) (i + 1) l head tail) (okUp (pSlot l tail held) i (d + 1)) := by
        rw [okUp, hS1, hb]
        by_cases b2 : (decide (s.f0 = 0) && (s.f1.toList == ([] : List UInt8))) = true
        · simp only [b2, Bool.not_true, Bool.false_eq_true, if_false, Bool.true_and]
          exact hh
        · rw [Bool.not_eq_true] at b2
          simp only [b2, Bool.not_false, if_true, Bool.false_and]
          exact Ev.now _
      by_cases b1 : s.f0 = 1
      · simp only [hi, hge, b1, if_true, if_false]
        refine Ev.bind (impl_within_ev _ _ _) ?_
        rw [b1] at hfin
        exact hfin
      · simp only [hi, hge, b1, if_true, if_false]
        exact hfin
theorem impl_RingOk_ev (l : List (S105)) (head tail : Int) (hl : l.length ≤ 1048576) (hw : (Lit.int .i64 head).wf = true) (hw2 : (Lit.int .i64 tail).wf = true) : Ev (fun k => impl_RingOk.f k l head tail) (pRingOk l head tail) := by
  have e0 : wrap64 ((l.length : Int) - 1) = l.length - 1 := w64 (by omega) (by omega)
  simp only [impl_RingOk.f, e0]
  refine Ev.bind (impl_within_ev _ _ _) ?_
  have hno : ¬ ringIn l head tail → Ev (fun k => impl_RingOk.j0 k (l.length : Int) true l head tail) (pRingOk l head tail) := by
    intro hn
    apply ev_succ
    simp only [impl_RingOk.j0, if_true]
    apply ev_some
    rw [pRingOk, decide_eq_false hn, Bool.false_and]
  by_cases a1 : 1 ≤ (l.length : Int) ∧ (l.length : Int) ≤ 8
  · simp only [a1, and_self, decide_true, if_true]
    refine Ev.bind (impl_within_ev _ _ _) ?_
    by_cases a2 : 0 ≤ head ∧ head ≤ (l.length : Int) - 1
    · simp only [a2, and_self, decide_true, if_true]
      refine Ev.bind (impl_within_ev _ _ _) ?_
      by_cases a3 : 0 ≤ tail ∧ tail ≤ (l.length : Int) - 1
      · simp only [a3, and_self, decide_true, Bool.not_true]
        have hin : ringIn l head tail := ⟨by omega, a2, a3⟩
        rw [pRingOk, decide_eq_true hin, Bool.true_and]
        have cz : ¬ (l.length : Int) = 0 := by omega
        have e1 : wrap64 (head - tail) = head - tail := w64 (by omega) (by omega)
        have e2 : wrap64 (head - tail + l.length) = head - tail + l.length := w64 (by omega) (by omega)
        have e3 : Int.tmod (head - tail + l.length) (l.length : Int) = (head - tail + l.length) % l.length := ring_tmod (by omega)
        have k1 : 0 ≤ head := by omega
        have k2 : head < (l.length : Int) := by omega
        have hloop := fun held => impl_RingOk_l0 l head tail held (by omega) (by omega) a3 l.length 0 (by omega) (by omega)
        have hj2 : ∀ held, Ev (fun k => impl_RingOk.j2 k (l.length : Int) held l head tail) (okUp (pSlot l tail held) 0 l.length) := by
          intro held
          apply ev_succ
          simp only [impl_RingOk.j2]
          exact hloop held
        apply ev_succ
        simp only [impl_RingOk.j0, Bool.false_eq_true, if_false, cz, e1, e2, e3]
        by_cases hz : (head - tail + l.length) % l.length = 0
        · simp only [hz, if_true, k1, k2]
          apply ev_succ
          by_cases ho : (rd_T105 l head).f0 = 1
          · simp only [impl_RingOk.j1, ho, beq_self_eq_true, if_true]
            rw [pHeld, if_pos ⟨hz, ho⟩]
            exact hj2 _
          · have ho' : ((rd_T105 l head).f0 == 1) = false := by simpa using ho
            simp only [impl_RingOk.j1, ho', Bool.false_eq_true, if_false]
            rw [pHeld, if_neg (fun h => ho h.2), hz]
            exact hj2 _
        · simp only [hz, if_false]
          apply ev_succ
          simp only [impl_RingOk.j1, Bool.false_eq_true, if_false]
          rw [pHeld, if_neg (fun h => hz h.1)]
          exact hj2 _
      · simp only [a3, decide_false, Bool.not_false]
        exact hno (fun h => a3 h.2.2)
    · simp only [a2, decide_false, Bool.false_eq_true, if_false]
      exact hno (fun h => a2 h.2.1)
  · simp only [a1, decide_false, Bool.false_eq_true, if_false]
    exact hno (fun h => a1 (by have := h.1; omega))

theorem spec_l01In_ev (a b c : Int) : Ev (fun _ => spec_l01In.f a b c) (decide (b ≤ a ∧ a ≤ c)) := by
  apply ev_const
  unfold spec_l01In.f
  by_cases h : a ≥ b
  · rw [if_pos h]; simp [show b ≤ a from h]
  · rw [if_neg h]; simp [show ¬ b ≤ a from h]

theorem spec_RingOk_l0 (l : List (S105)) (head tail held : Int) (h1 : 1 ≤ l.length) (h8 : l.length ≤ 8) (ht : 0 ≤ tail ∧ tail ≤ l.length - 1) : ∀ (d : Nat) (i : Int), 0 ≤ i → i + d = l.length →
    Ev (fun k => spec_RingOk.l0 k (l.length : Int) held i l head tail) (okUp (pSlot l tail held) i d) := by
  intro d
  induction d with
  | zero =>
    intro i h0 h
    apply ev_succ
    have c : ¬ i < (l.length : Int) := by omega
    simp only [spec_RingOk.l0, c, if_false]
    exact Ev.now _
  | succ d ih =>
    intro i h0 h
    apply ev_succ
    have c : i < (l.length : Int) := by omega
    have cz : ¬ (l.length : Int) = 0 := by omega
    have e1 : wrap64 (i + 1) = i + 1 := w64 (by omega) (by omega)
    have e2 : wrap64 (tail + i) = tail + i := w64 (by omega) (by omega)
    have e3 : Int.tmod (tail + i) (l.length : Int) = (tail + i) % l.length := ring_tmod (by omega)
    have k1 : 0 ≤ (tail + i) % (l.length : Int) := Int.emod_nonneg _ (by omega)
    have k2 : (tail + i) % (l.length : Int) < (l.length : Int) := Int.emod_lt_of_pos _ (by omega)
    have hh := ih (i + 1) (by omega) (by omega)
    have hs : rd_T105 l ((tail + i) % l.length) = rd_T105 l ((tail + i) % l.length) := rfl
    simp only [spec_RingOk.l0, c, cz, if_true, if_false, e1, e2, e3, k1, k2]
    obtain ⟨s, hs⟩ : ∃ s, rd_T105 l ((tail + i) % l.length) = s := ⟨_, rfl⟩
    rw [hs]
    clear k1 k2 e1 e2 e3
    by_cases hi : i < held
    · have hS1 : pSlot l tail held i = (decide (s.f0 = 1) && decide (1 ≤ s.f1.size ∧ s.f1.size ≤ 100)) := by rw [pSlot, if_pos hi, hs]
      have hge : ¬ i ≥ held := by omega
      by_cases b1 : s.f0 = 1
      · simp only [hi, b1, if_true]
        refine Ev.bind (spec_l01In_ev _ _ _) ?_
        by_cases b2 : 1 ≤ s.f1.size ∧ s.f1.size ≤ 100
        · have b2' : 1 ≤ (s.f1.size : Int) ∧ (s.f1.size : Int) ≤ 100 := by omega
          simp only [b2', and_self, decide_true, if_true, hge, if_false]
          rw [okUp, hS1, b1]
          simpa [b2] using hh
        · have b2' : ¬ (1 ≤ (s.f1.size : Int) ∧ (s.f1.size : Int) ≤ 100) := by omega
          simp only [b2', decide_false, Bool.false_eq_true, if_false]
          apply ev_some
          rw [okUp, hS1, decide_eq_false b2, Bool.and_false, Bool.false_and]
      · simp only [hi, b1, if_true, if_false]
        apply ev_some
        rw [okUp, hS1, decide_eq_false b1, Bool.false_and, Bool.false_and]
    · have hS1 : pSlot l tail held i = (decide (s.f0 = 0) && (s.f1.toList == ([] : List UInt8))) := by rw [pSlot, if_neg hi, hs]
      have hge : i ≥ held := by omega
      by_cases b1 : s.f0 = 0
      · by_cases b2 : s.f1.toList = ([] : List UInt8)
        · simp only [hi, hge, b1, b2, if_true, if_false]
          rw [okUp, hS1, b1, b2]
          simpa using hh
        · simp only [hi, hge, b1, b2, if_true, if_false]
          apply ev_some
          rw [okUp, hS1]
          simp [b2]
      · simp only [hi, hge, b1, if_true, if_false]
        apply ev_some
        rw [okUp, hS1, decide_eq_false b1, Bool.false_and, Bool.false_and]
theorem spec_RingOk_ev (l : List (S105)) (head tail : Int) (hl : l.length ≤ 1048576) (hw : (Lit.int .i64 head).wf = true) (hw2 : (Lit.int .i64 tail).wf = true) : Ev (fun k => spec_RingOk.f k l head tail) (pRingOk l head tail) := by
  have e0 : wrap64 ((l.length : Int) - 1) = l.length - 1 := w64 (by omega) (by omega)
  simp only [spec_RingOk.f, e0]
  refine Ev.bind (spec_l01In_ev _ _ _) ?_
  have hno : ¬ ringIn l head tail → Ev (fun k => spec_RingOk.j0 k (l.length : Int) true l head tail) (pRingOk l head tail) := by
    intro hn
    apply ev_succ
    simp only [spec_RingOk.j0, if_true]
    apply ev_some
    rw [pRingOk, decide_eq_false hn, Bool.false_and]
  by_cases a1 : 1 ≤ (l.length : Int) ∧ (l.length : Int) ≤ 8
  · simp only [a1, and_self, decide_true, if_true]
    refine Ev.bind (spec_l01In_ev _ _ _) ?_
    by_cases a2 : 0 ≤ head ∧ head ≤ (l.length : Int) - 1
    · simp only [a2, and_self, decide_true, if_true]
      refine Ev.bind (spec_l01In_ev _ _ _) ?_
      by_cases a3 : 0 ≤ tail ∧ tail ≤ (l.length : Int) - 1
      · simp only [a3, and_self, decide_true, Bool.not_true]
        have hin : ringIn l head tail := ⟨by omega, a2, a3⟩
        rw [pRingOk, decide_eq_true hin, Bool.true_and]
        have cz : ¬ (l.length : Int) = 0 := by omega
        have e1 : wrap64 (head - tail) = head - tail := w64 (by omega) (by omega)
        have e2 : wrap64 (head - tail + l.length) = head - tail + l.length := w64 (by omega) (by omega)
        have e3 : Int.tmod (head - tail + l.length) (l.length : Int) = (head - tail + l.length) % l.length := ring_tmod (by omega)
        have k1 : 0 ≤ head := by omega
        have k2 : head < (l.length : Int) := by omega
        have hloop := fun held => spec_RingOk_l0 l head tail held (by omega) (by omega) a3 l.length 0 (by omega) (by omega)
        have hj2 : ∀ held, Ev (fun k => spec_RingOk.j2 k (l.length : Int) held l head tail) (okUp (pSlot l tail held) 0 l.length) := by
          intro held
          apply ev_succ
          simp only [spec_RingOk.j2]
          exact hloop held
        apply ev_succ
        simp only [spec_RingOk.j0, Bool.false_eq_true, if_false, cz, e1, e2, e3]
        by_cases hz : (head - tail + l.length) % l.length = 0
        · simp only [hz, if_true, k1, k2]
          apply ev_succ
          by_cases ho : (rd_T105 l head).f0 = 1
          · simp only [spec_RingOk.j1, ho, beq_self_eq_true, if_true]
            rw [pHeld, if_pos ⟨hz, ho⟩]
            exact hj2 _
          · have ho' : ((rd_T105 l head).f0 == 1) = false := by simpa using ho
            simp only [spec_RingOk.j1, ho', Bool.false_eq_true, if_false]
            rw [pHeld, if_neg (fun h => ho h.2), hz]
            exact hj2 _
        · simp only [hz, if_false]
          apply ev_succ
          simp only [spec_RingOk.j1, Bool.false_eq_true, if_false]
          rw [pHeld, if_neg (fun h => hz h.1)]
          exact hj2 _
      · simp only [a3, decide_false, Bool.not_false]
        exact hno (fun h => a3 h.2.2)
    · simp only [a2, decide_false, Bool.false_eq_true, if_false]
      exact hno (fun h => a2 h.2.1)
  · simp only [a1, decide_false, Bool.false_eq_true, if_false]
    exact hno (fun h => a1 (by have := h.1; omega))

theorem FnExactRingOk : OpenFnExactRingOk.Stmt := by
  intro l a b hl ha hb
  apply ev_rounds
  simp only [laws_FnExactRingOk.f]
  obtain ⟨r, hr, hrr⟩ := laws_szRing_ev l a b 1048576 (by decide) (by decide) hl.1 (fun x hx => (hl.2 x hx).2)
  refine Ev.bind hr ?_
  rcases hrr with hn | ⟨hn, hle, hll, hg⟩
  · simp only [hn, if_true]
    exact Ev.now _
  · have hn' : ¬ r < 0 := by omega
    simp only [hn', if_false]
    have hlen : l.length ≤ 1048576 := by omega
    have hlen' : (l.map cvSlot).length ≤ 1048576 := by simpa using hlen
    have ht := laws_toRing_ev l a b hlen
    refine Ev.bind ht ?_
    refine Ev.bind (spec_RingOk_ev _ _ _ hlen' ha hb) ?_
    refine Ev.bind ht ?_
    refine Ev.bind (impl_RingOk_ev _ _ _ hlen' ha hb) ?_
    simp only [bne_self_eq_false, Bool.false_eq_true, if_false]
    refine Ev.bind ht ?_
    refine Ev.bind (laws_eqRing_ev _ _ _ (by rw [List.length_map]; omega)) ?_
    simp

end Go.Proofs.Ytfccdecalkabhaa.Pure
