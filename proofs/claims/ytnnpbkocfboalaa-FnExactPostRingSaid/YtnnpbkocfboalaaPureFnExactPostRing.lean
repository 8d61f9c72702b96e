/- PostRing of the program and of the reference answer the same for every ring and text; the ring given stays as it is, and the answer shares nothing with it. -/
import Derived.Test.YtnnpbkocfboalaaOpenFnExactPostRing
import Derived.Test.YtnnpbkocfboalaaBaseL
namespace Go.Proofs.Ytnnpbkocfboalaa.Pure
open Go.RowKit Go.Proofs.Ytnnpbkocfboalaa.QFnExactPostRing Go.Proofs.YtnnpbkocfboalaaW.PrintWords Go.Proofs.YtnnpbkocfboalaaW.PrintLast Go.Proofs.YtnnpbkocfboalaaW.PrintMore Go.Proofs.Ytnnpbkocfboalaa.Base
set_option linter.unusedVariables false
set_option linter.unusedSimpArgs false

theorem laws_szSlot_ev (a0 : Int) (a1 : ByteArray) (left : Int) (h0 : 0 ≤ left) (h1 : left ≤ 1048576) (g1 : a1.size ≤ 9223372036854775807) : ∃ r : Int, Ev (fun _ => laws_szSlot.f a0 a1 left) r ∧ (r < 0 ∨ (0 ≤ r ∧ r = left - (a1.size : Int))) := by
  have e1 : wrap64 (left - (a1.size : Int)) = left - (a1.size : Int) := w64 (by omega) (by omega)
  by_cases c1 : left - (a1.size : Int) < 0
  · refine ⟨-1, ev_const ?_, Or.inl (by decide)⟩
    simp only [laws_szSlot.f, e1, c1, if_true]
  · refine ⟨left - (a1.size : Int), ev_const ?_, Or.inr ⟨by omega, rfl⟩⟩
    simp only [laws_szSlot.f, e1, c1, if_false]
theorem laws_szSlotS_l0 (l : List (S167)) (hl : l.length ≤ 1048576) (hg : ∀ x : S167, x ∈ l → x.f1.size ≤ 9223372036854775807) : ∀ (d : Nat) (i left : Int), 0 ≤ i → i + d = l.length → 0 ≤ left → left ≤ 1048576 →
    ∃ r : Int, Ev (fun k => laws_szSlotS.l0 k l left i) r ∧ (r < 0 ∨ (0 ≤ r ∧ r ≤ left ∧ ∀ x : S167, x ∈ l.drop i.toNat → (x.f1.size : Int) ≤ left)) := by
  intro d
  induction d with
  | zero =>
    intro i left h0 h hl0 hl1
    refine ⟨left, ev_succ ?_, Or.inr ⟨hl0, Int.le_refl _, fun x hx => ?_⟩⟩
    · have c : ¬ i < (l.length : Int) := by omega
      simp only [laws_szSlotS.l0, c, if_false]
      exact Ev.now _
    · rw [List.drop_of_length_le (by omega)] at hx
      simp at hx
  | succ d ih =>
    intro i left h0 h hl0 hl1
    have c : i < (l.length : Int) := by omega
    have hd : l.drop i.toNat = rd_T167 l i :: l.drop (i + 1).toNat := drop_get l i h0 c z167
    have hm : rd_T167 l i ∈ l := List.mem_of_mem_drop (i := i.toNat) (by rw [hd]; exact List.mem_cons_self)
    have hq := hg _ hm
    obtain ⟨r, hr, hrr⟩ := laws_szSlot_ev (rd_T167 l i).f0 (rd_T167 l i).f1 left hl0 hl1 hq
    have e : wrap64 (i + 1) = i + 1 := w64 (by omega) (by omega)
    by_cases hn : r < 0
    · refine ⟨-1, ev_succ ?_, Or.inl (by decide)⟩
      simp only [laws_szSlotS.l0, c, h0, if_true]
      refine Ev.bind hr ?_
      simp only [hn, if_true]
      exact Ev.now _
    · have hrr' := hrr.resolve_left hn
      obtain ⟨q, hq1, hq2⟩ := ih (i + 1) r (by omega) (by omega) hrr'.1 (by omega)
      refine ⟨q, ev_succ ?_, ?_⟩
      · simp only [laws_szSlotS.l0, c, h0, if_true, e]
        refine Ev.bind hr ?_
        simp only [hn, if_false]
        exact hq1
      · rcases hq2 with hq2 | ⟨hq2, hq3, hq4⟩
        · exact Or.inl hq2
        · refine Or.inr ⟨hq2, by omega, fun x hx => ?_⟩
          rw [hd] at hx
          rcases List.mem_cons.1 hx with rfl | hx
          · omega
          · have := hq4 x hx
            omega
theorem laws_szSlotS_ev (l : List (S167)) (left : Int) (h0 : 0 ≤ left) (h1 : left ≤ 1048576) (hl : l.length ≤ 9223372036854775807) (hg : ∀ x : S167, x ∈ l → x.f1.size ≤ 9223372036854775807) :
    ∃ r : Int, Ev (fun k => laws_szSlotS.f k l left) r ∧ (r < 0 ∨ (0 ≤ r ∧ r ≤ left ∧ (l.length : Int) ≤ left ∧ ∀ x : S167, x ∈ l → (x.f1.size : Int) ≤ left)) := by
  have e : wrap64 (left - (l.length : Int)) = left - (l.length : Int) := w64 (by omega) (by omega)
  by_cases c : left - (l.length : Int) < 0
  · refine ⟨-1, ?_, Or.inl (by decide)⟩
    simp only [laws_szSlotS.f, e, c, if_true]
    exact Ev.now _
  · obtain ⟨r, hr, hrr⟩ := laws_szSlotS_l0 l (by omega) hg l.length 0 (left - l.length) (by omega) (by omega) (by omega) (by omega)
    refine ⟨r, ?_, ?_⟩
    · simp only [laws_szSlotS.f, e, c, if_false]
      exact hr
    · rcases hrr with hrr | ⟨h2, h3, h4⟩
      · exact Or.inl hrr
      · refine Or.inr ⟨h2, by omega, by omega, fun x hx => ?_⟩
        have := h4 x (by simpa using hx)
        omega

def cvSlot (x : S167) : S128 := ⟨x.f0, x.f1⟩
theorem laws_toSlot_ev (a0 : Int) (a1 : ByteArray) : Ev (fun _ => laws_toSlot.f a0 a1) (a0, a1) := ev_const rfl
theorem laws_toSlotS_ev (l : List (S167)) (hl : l.length ≤ 1048576) : Ev (fun k => laws_toSlotS.f k l) (l.map cvSlot) := by
  have c1 : 0 ≤ (l.length : Int) := by omega
  have c2 : ∀ n : Nat, 1048576 ≤ n → ((l.length : Int)).toNat ≤ n := fun n h => by omega
  simp only [laws_toSlotS.f, c1, if_true]
  rw [ev_if (c2 _ (by decide))]
  have key := loop_up (fun k (b : List (S128)) i => laws_toSlotS.l0 k l b i) (l.length : Int) (l.map cvSlot) (fun b i => b.length = l.length ∧ b.take i.toNat = (l.map cvSlot).take i.toNat)
    (fun b hs => by
      obtain ⟨hb, ht⟩ := hs
      have c : ¬ (l.length : Int) < (l.length : Int) := by omega
      simp only [laws_toSlotS.l0, c, if_false]
      apply ev_some
      rw [List.take_of_length_le (by omega), List.take_of_length_le (by rw [List.length_map]; omega)] at ht
      exact ht)
    (fun b i h0 h1 hs ih => by
      obtain ⟨hb, ht⟩ := hs
      have c : i < (b.length : Int) := by omega
      have e2 : wrap64 (i + 1) = i + 1 := w64 (by omega) (by omega)
      simp only [laws_toSlotS.l0, h1, h0, if_true, e2]
      refine Ev.bind (laws_toSlot_ev _ _) ?_
      simp only [c, if_true]
      refine ih _ ⟨by rw [List.length_set]; exact hb, ?_⟩
      rw [show (i + 1).toNat = i.toNat + 1 by omega]
      refine take_set (l.map cvSlot) b i.toNat _ (by rw [List.length_map]; exact hb) (by rw [List.length_map]; omega) ht ?_
      rw [List.getElem?_map, getElem_rd l i h0 h1 z167]
      rfl)
  exact key l.length 0 _ (by omega) (by omega) ⟨by simp, by simp⟩

theorem laws_eqSlot_ev (a0 : Int) (a1 : ByteArray) : Ev (fun _ => laws_eqSlot.f a0 a1 a0 a1) true := by
  apply ev_const
  simp [laws_eqSlot.f]
theorem laws_eqSlotS_ev (l : List (S128)) (hl : l.length ≤ 140737488355328) : Ev (fun k => laws_eqSlotS.f k l l) true := by
  simp only [laws_eqSlotS.f, if_true]
  have key := loop_up (fun k (_ : Unit) i => laws_eqSlotS.l0 k l l i) (l.length : Int) true (fun _ _ => True)
    (fun _ _ => by
      have c : ¬ (l.length : Int) < (l.length : Int) := by omega
      simp only [laws_eqSlotS.l0, c, if_false]
      exact Ev.now _)
    (fun _ i h0 h1 _ ih => by
      have e2 : wrap64 (i + 1) = i + 1 := w64 (by omega) (by omega)
      simp only [laws_eqSlotS.l0, h1, h0, if_true, e2]
      refine Ev.bind (laws_eqSlot_ev _ _) ?_
      simp only [if_true]
      exact ih () trivial)
  exact key l.length 0 () (by omega) (by omega) trivial

theorem laws_szRing_ev (l : List (S167)) (a b left : Int) (h0 : 0 ≤ left) (h1 : left ≤ 1048576) (hl : l.length ≤ 9223372036854775807) (hg : ∀ x : S167, x ∈ l → x.f1.size ≤ 9223372036854775807) :
    ∃ r : Int, Ev (fun k => laws_szRing.f k l a b left) r ∧ (r < 0 ∨ (0 ≤ r ∧ r ≤ left ∧ (l.length : Int) ≤ left ∧ ∀ x : S167, x ∈ l → (x.f1.size : Int) ≤ left)) := by
  obtain ⟨r, hr, hrr⟩ := laws_szSlotS_ev l left h0 h1 hl hg
  refine ⟨if r < 0 then -1 else r, ?_, ?_⟩
  · simp only [laws_szRing.f]
    refine Ev.bind hr ?_
    by_cases c : r < 0 <;> simp [c]
  · rcases hrr with h | h
    · rw [if_pos h]; exact Or.inl (by decide)
    · rw [if_neg (by omega)]; exact Or.inr h
theorem laws_toRing_ev (l : List (S167)) (a b : Int) (hl : l.length ≤ 1048576) : Ev (fun k => laws_toRing.f k l a b) (l.map cvSlot, a, b) := by
  simp only [laws_toRing.f]
  exact Ev.bind (laws_toSlotS_ev l hl) (Ev.now _)
theorem laws_eqRing_ev (l : List (S128)) (a b : Int) (hl : l.length ≤ 140737488355328) : Ev (fun k => laws_eqRing.f k l a b l a b) true := by
  simp only [laws_eqRing.f]
  refine Ev.bind (laws_eqSlotS_ev l hl) ?_
  simp

theorem impl_within_ev (a b c : Int) : Ev (fun _ => impl_within.f a b c) (decide (b ≤ a ∧ a ≤ c)) := by
  apply ev_const
  unfold impl_within.f
  by_cases h : a ≥ b
  · rw [if_pos h]; simp [show b ≤ a from h]
  · rw [if_neg h]; simp [show ¬ b ≤ a from h]

def okUp (P : Int → Bool) : Int → Nat → Bool
  | _, 0 => true
  | i, d + 1 => P i && okUp P (i + 1) d
def pSlot (l : List (S128)) (tail held i : Int) : Bool :=
  if i < held then decide ((rd_T128 l ((tail + i) % l.length)).f0 = 1) && decide (1 ≤ (rd_T128 l ((tail + i) % l.length)).f1.size ∧ (rd_T128 l ((tail + i) % l.length)).f1.size ≤ 100)
  else decide ((rd_T128 l ((tail + i) % l.length)).f0 = 0) && ((rd_T128 l ((tail + i) % l.length)).f1.toList == ([] : List UInt8))
def pHeld (l : List (S128)) (head tail : Int) : Int :=
  if (head - tail + l.length) % l.length = 0 ∧ (rd_T128 l head).f0 = 1 then l.length else (head - tail + l.length) % l.length
def ringIn (l : List (S128)) (head tail : Int) : Prop := (1 ≤ l.length ∧ l.length ≤ 8) ∧ (0 ≤ head ∧ head ≤ l.length - 1) ∧ (0 ≤ tail ∧ tail ≤ l.length - 1)
instance (l : List (S128)) (head tail : Int) : Decidable (ringIn l head tail) := by unfold ringIn; infer_instance
def pRingOk (l : List (S128)) (head tail : Int) : Bool := decide (ringIn l head tail) && okUp (pSlot l tail (pHeld l head tail)) 0 l.length
theorem ring_tmod {x n : Int} (h0 : 0 ≤ x) : Int.tmod x n = x % n := Int.tmod_eq_emod_of_nonneg h0

theorem impl_RingOk_l0 (l : List (S128)) (head tail held : Int) (h1 : 1 ≤ l.length) (h8 : l.length ≤ 8) (ht : 0 ≤ tail ∧ tail ≤ l.length - 1) : ∀ (d : Nat) (i : Int), 0 ≤ i → i + d = l.length →
    Ev (fun k => impl_RingOk.l0 k (l.length : Int) held (l.length : Int) i l head tail) (okUp (pSlot l tail held) i d) := by
  intro d
  induction d with
  | zero =>
    intro i h0 h
    apply ev_succ
    have c : ¬ i < (l.length : Int) := by omega
    simp only [impl_RingOk.l0, c, if_false]
    exact Ev.now _
  | succ d ih =>
    intro i h0 h
    apply ev_succ
    have c : i < (l.length : Int) := by omega
    have cz : ¬ (l.length : Int) = 0 := by omega
    have e1 : wrap64 (i + 1) = i + 1 := w64 (by omega) (by omega)
    have e2 : wrap64 (tail + i) = tail + i := w64 (by omega) (by omega)
    have e3 : Int.tmod (tail + i) (l.length : Int) = (tail + i) % l.length := ring_tmod (by omega)
    have k1 : 0 ≤ (tail + i) % (l.length : Int) := Int.emod_nonneg _ (by omega)
    have k2 : (tail + i) % (l.length : Int) < (l.length : Int) := Int.emod_lt_of_pos _ (by omega)
    have hh := ih (i + 1) (by omega) (by omega)
    have hs : rd_T128 l ((tail + i) % l.length) = rd_T128 l ((tail + i) % l.length) := rfl
    simp only [impl_RingOk.l0, c, cz, if_true, if_false, e1, e2, e3, k1, k2]
    obtain ⟨s, hs⟩ : ∃ s, rd_T128 l ((tail + i) % l.length) = s := ⟨_, rfl⟩
    rw [hs]
    clear k1 k2 e1 e2 e3
    by_cases hi : i < held
    · have hS1 : pSlot l tail held i = (decide (s.f0 = 1) && decide (1 ≤ s.f1.size ∧ s.f1.size ≤ 100)) := by rw [pSlot, if_pos hi, hs]
      have hge : ¬ i ≥ held := by omega
      by_cases b1 : s.f0 = 1
      · simp only [hi, b1, if_true]
        refine Ev.bind (impl_within_ev _ _ _) ?_
        by_cases b2 : 1 ≤ s.f1.size ∧ s.f1.size ≤ 100
        · have b2' : 1 ≤ (s.f1.size : Int) ∧ (s.f1.size : Int) ≤ 100 := by omega
          simp only [b2', and_self, decide_true, if_true, hge, if_false]
          rw [okUp, hS1, b1]
          simpa [b2] using hh
        · have b2' : ¬ (1 ≤ (s.f1.size : Int) ∧ (s.f1.size : Int) ≤ 100) := by omega
          simp only [b2', decide_false, Bool.false_eq_true, if_false]
          apply ev_some
          rw [okUp, hS1, decide_eq_false b2, Bool.and_false, Bool.false_and]
      · simp only [hi, b1, if_true, if_false]
        apply ev_some
        rw [okUp, hS1, decide_eq_false b1, Bool.false_and, Bool.false_and]
    · have hS1 : pSlot l tail held i = (decide (s.f0 = 0) && (s.f1.toList == ([] : List UInt8))) := by rw [pSlot, if_neg hi, hs]
      have hge : i ≥ held := by omega
      have hb : (!(s.f0 == 0) || (!(s.f1.toList == ([] : List UInt8)))) = !(decide (s.f0 = 0) && (s.f1.toList == ([] : List UInt8))) := by
        by_cases b1 : s.f0 = 0 <;> simp [b1]
      have hfin : Ev (fun k => if (!(s.f0 == 0) || (!(s.f1.toList == ([] : List UInt8)))) = true then some false else impl_RingOk.l0 k (l.length : Int) held (l.length : Int) (i + 1) l head tail) (okUp (pSlot l tail held) i (d + 1)) := by
        rw [okUp, hS1, hb]
        by_cases b2 : (decide (s.f0 = 0) && (s.f1.toList == ([] : List UInt8))) = true
        · simp only [b2, Bool.not_true, Bool.false_eq_true, if_false, Bool.true_and]
          exact hh
        · rw [Bool.not_eq_true] at b2
          simp only [b2, Bool.not_false, if_true, Bool.false_and]
          exact Ev.now _
      by_cases b1 : s.f0 = 1
      · simp only [hi, hge, b1, if_true, if_false]
        refine Ev.bind (impl_within_ev _ _ _) ?_
        rw [b1] at hfin
        exact hfin
      · simp only [hi, hge, b1, if_true, if_false]
        exact hfin
theorem impl_RingOk_ev (l : List (S128)) (head tail : Int) (hl : l.length ≤ 1048576) (hw : (Lit.int .i64 head).wf = true) (hw2 : (Lit.int .i64 tail).wf = true) : Ev (fun k => impl_RingOk.f k l head tail) (pRingOk l head tail) := by
  have e0 : wrap64 ((l.length : Int) - 1) = l.length - 1 := w64 (by omega) (by omega)
  simp only [impl_RingOk.f, e0]
  refine Ev.bind (impl_within_ev _ _ _) ?_
  have hno : ¬ ringIn l head tail → Ev (fun k => impl_RingOk.j0 k (l.length : Int) true l head tail) (pRingOk l head tail) := by
    intro hn
    apply ev_succ
    simp only [impl_RingOk.j0, if_true]
    apply ev_some
    rw [pRingOk, decide_eq_false hn, Bool.false_and]
  by_cases a1 : 1 ≤ (l.length : Int) ∧ (l.length : Int) ≤ 8
  · simp only [a1, and_self, decide_true, if_true]
    refine Ev.bind (impl_within_ev _ _ _) ?_
    by_cases a2 : 0 ≤ head ∧ head ≤ (l.length : Int) - 1
    · simp only [a2, and_self, decide_true, if_true]
      refine Ev.bind (impl_within_ev _ _ _) ?_
      by_cases a3 : 0 ≤ tail ∧ tail ≤ (l.length : Int) - 1
      · simp only [a3, and_self, decide_true, Bool.not_true]
        have hin : ringIn l head tail := ⟨by omega, a2, a3⟩
        rw [pRingOk, decide_eq_true hin, Bool.true_and]
        have cz : ¬ (l.length : Int) = 0 := by omega
        have e1 : wrap64 (head - tail) = head - tail := w64 (by omega) (by omega)
        have e2 : wrap64 (head - tail + l.length) = head - tail + l.length := w64 (by omega) (by omega)
        have e3 : Int.tmod (head - tail + l.length) (l.length : Int) = (head - tail + l.length) % l.length := ring_tmod (by omega)
        have k1 : 0 ≤ head := by omega
        have k2 : head < (l.length : Int) := by omega
        have hloop := fun held => impl_RingOk_l0 l head tail held (by omega) (by omega) a3 l.length 0 (by omega) (by omega)
        have hj2 : ∀ held, Ev (fun k => impl_RingOk.j2 k (l.length : Int) held l head tail) (okUp (pSlot l tail held) 0 l.length) := by
          intro held
          apply ev_succ
          simp only [impl_RingOk.j2]
          exact hloop held
        apply ev_succ
        simp only [impl_RingOk.j0, Bool.false_eq_true, if_false, cz, e1, e2, e3]
        by_cases hz : (head - tail + l.length) % l.length = 0
        · simp only [hz, if_true, k1, k2]
          apply ev_succ
          by_cases ho : (rd_T128 l head).f0 = 1
          · simp only [impl_RingOk.j1, ho, beq_self_eq_true, if_true]
            rw [pHeld, if_pos ⟨hz, ho⟩]
            exact hj2 _
          · have ho' : ((rd_T128 l head).f0 == 1) = false := by simpa using ho
            simp only [impl_RingOk.j1, ho', Bool.false_eq_true, if_false]
            rw [pHeld, if_neg (fun h => ho h.2), hz]
            exact hj2 _
        · simp only [hz, if_false]
          apply ev_succ
          simp only [impl_RingOk.j1, Bool.false_eq_true, if_false]
          rw [pHeld, if_neg (fun h => hz h.1)]
          exact hj2 _
      · simp only [a3, decide_false, Bool.not_false]
        exact hno (fun h => a3 h.2.2)
    · simp only [a2, decide_false, Bool.false_eq_true, if_false]
      exact hno (fun h => a2 h.2.1)
  · simp only [a1, decide_false, Bool.false_eq_true, if_false]
    exact hno (fun h => a1 (by have := h.1; omega))

def pPost (l : List (S128)) (a b : Int) (s : ByteArray) : List (S128) × Int × Int × Bool :=
  if pRingOk l a b = true ∧ ¬ (rd_T128 l a).f0 = 1 ∧ (1 ≤ (s.size : Int) ∧ (s.size : Int) ≤ 100) then (l.set a.toNat ⟨1, s⟩, (a + 1) % l.length, b, true) else (l, a, b, false)
theorem pPost_len (l : List (S128)) (a b : Int) (s : ByteArray) : (pPost l a b s).1.length = l.length := by
  unfold pPost
  split <;> simp
theorem pPost_yes {l : List (S128)} {a b : Int} {s : ByteArray} (h1 : pRingOk l a b = true) (h2 : ¬ (rd_T128 l a).f0 = 1) (h3 : 1 ≤ (s.size : Int) ∧ (s.size : Int) ≤ 100) : pPost l a b s = (l.set a.toNat ⟨1, s⟩, (a + 1) % l.length, b, true) := if_pos ⟨h1, h2, h3⟩
theorem pPost_no {l : List (S128)} {a b : Int} {s : ByteArray} (h : ¬ (pRingOk l a b = true ∧ ¬ (rd_T128 l a).f0 = 1 ∧ (1 ≤ (s.size : Int) ∧ (s.size : Int) ≤ 100))) : pPost l a b s = (l, a, b, false) := if_neg h
theorem pRingOk_in {l : List (S128)} {a b : Int} (h : pRingOk l a b = true) : ringIn l a b := by
  rw [pRingOk, Bool.and_eq_true] at h
  exact of_decide_eq_true h.1
theorem impl_PostRing_ev (l : List (S128)) (a b : Int) (s : ByteArray) (hl : l.length ≤ 1048576) (hw : (Lit.int .i64 a).wf = true) (hw2 : (Lit.int .i64 b).wf = true) : Ev (fun k => impl_PostRing.f k l a b s) (pPost l a b s) := by
  have e0 : 0 + l.length < 5864062014805 := by omega
  simp only [impl_PostRing.f, impl_copyRing.f, Option.bind_some, List.nil_append, List.length_nil, e0, if_true]
  refine Ev.bind (impl_RingOk_ev l a b hl hw hw2) ?_
  by_cases h1 : pRingOk l a b = true
  · have hin := pRingOk_in h1
    have k1 : 0 ≤ a := hin.2.1.1
    have k2 : a < (l.length : Int) := by have := hin.2.1.2; omega
    have k3 : ¬ (l.length : Int) = 0 := by omega
    have e1 : wrap64 (a + 1) = a + 1 := w64 (by omega) (by omega)
    have e2 : Int.tmod (a + 1) (l.length : Int) = (a + 1) % l.length := ring_tmod (by omega)
    simp only [h1, if_true, k1, k2, k3, if_false, e1, e2]
    by_cases h2 : (rd_T128 l a).f0 = 1
    · simp only [h2, if_true]
      rw [pPost_no (fun h => h.2.1 h2)]
      exact Ev.now _
    · simp only [h2, if_false]
      refine Ev.bind (impl_within_ev _ _ _) ?_
      by_cases h3 : 1 ≤ (s.size : Int) ∧ (s.size : Int) ≤ 100
      · rw [pPost_yes h1 h2 h3]
        simp only [h3, and_self, decide_true, if_true]
        exact Ev.now _
      · rw [pPost_no (fun h => h3 h.2.2)]
        simp only [h3, decide_false, Bool.false_eq_true, if_false]
        exact Ev.now _
  · rw [pPost_no (fun h => h1 h.1)]
    simp only [h1, if_false]
    exact Ev.now _

theorem spec_l01In_ev (a b c : Int) : Ev (fun _ => spec_l01In.f a b c) (decide (b ≤ a ∧ a ≤ c)) := by
  apply ev_const
  unfold spec_l01In.f
  by_cases h : a ≥ b
  · rw [if_pos h]; simp [show b ≤ a from h]
  · rw [if_neg h]; simp [show ¬ b ≤ a from h]

theorem spec_RingOk_l0 (l : List (S128)) (head tail held : Int) (h1 : 1 ≤ l.length) (h8 : l.length ≤ 8) (ht : 0 ≤ tail ∧ tail ≤ l.length - 1) : ∀ (d : Nat) (i : Int), 0 ≤ i → i + d = l.length →
    Ev (fun k => spec_RingOk.l0 k (l.length : Int) held i l head tail) (okUp (pSlot l tail held) i d) := by
  intro d
  induction d with
  | zero =>
    intro i h0 h
    apply ev_succ
    have c : ¬ i < (l.length : Int) := by omega
    simp only [spec_RingOk.l0, c, if_false]
    exact Ev.now _
  | succ d ih =>
    intro i h0 h
    apply ev_succ
    have c : i < (l.length : Int) := by omega
    have cz : ¬ (l.length : Int) = 0 := by omega
    have e1 : wrap64 (i + 1) = i + 1 := w64 (by omega) (by omega)
    have e2 : wrap64 (tail + i) = tail + i := w64 (by omega) (by omega)
    have e3 : Int.tmod (tail + i) (l.length : Int) = (tail + i) % l.length := ring_tmod (by omega)
    have k1 : 0 ≤ (tail + i) % (l.length : Int) := Int.emod_nonneg _ (by omega)
    have k2 : (tail + i) % (l.length : Int) < (l.length : Int) := Int.emod_lt_of_pos _ (by omega)
    have hh := ih (i + 1) (by omega) (by omega)
    have hs : rd_T128 l ((tail + i) % l.length) = rd_T128 l ((tail + i) % l.length) := rfl
    simp only [spec_RingOk.l0, c, cz, if_true, if_false, e1, e2, e3, k1, k2]
    obtain ⟨s, hs⟩ : ∃ s, rd_T128 l ((tail + i) % l.length) = s := ⟨_, rfl⟩
    rw [hs]
    clear k1 k2 e1 e2 e3
    by_cases hi : i < held
    · have hS1 : pSlot l tail held i = (decide (s.f0 = 1) && decide (1 ≤ s.f1.size ∧ s.f1.size ≤ 100)) := by rw [pSlot, if_pos hi, hs]
      have hge : ¬ i ≥ held := by omega
      by_cases b1 : s.f0 = 1
      · simp only [hi, b1, if_true]
        refine Ev.bind (spec_l01In_ev _ _ _) ?_
        by_cases b2 : 1 ≤ s.f1.size ∧ s.f1.size ≤ 100
        · have b2' : 1 ≤ (s.f1.size : Int) ∧ (s.f1.size : Int) ≤ 100 := by omega
          simp only [b2', and_self, decide_true, if_true, hge, if_false]
          rw [okUp, hS1, b1]
          simpa [b2] using hh
        · have b2' : ¬ (1 ≤ (s.f1.size : Int) ∧ (s.f1.size : Int) ≤ 100) := by omega
          simp only [b2', decide_false, Bool.false_eq_true, if_false]
          apply ev_some
          rw [okUp, hS1, decide_eq_false b2, Bool.and_false, Bool.false_and]
      · simp only [hi, b1, if_true, if_false]
        apply ev_some
        rw [okUp, hS1, decide_eq_false b1, Bool.false_and, Bool.false_and]
    · have hS1 : pSlot l tail held i = (decide (s.f0 = 0) && (s.f1.toList == ([] : List UInt8))) := by rw [pSlot, if_neg hi, hs]
      have hge : i ≥ held := by omega
      by_cases b1 : s.f0 = 0
      · by_cases b2 : s.f1.toList = ([] : List UInt8)
        · simp only [hi, hge, b1, b2, if_true, if_false]
          rw [okUp, hS1, b1, b2]
          simpa using hh
        · simp only [hi, hge, b1, b2, if_true, if_false]
          apply ev_some
          rw [okUp, hS1]
          simp [b2]
      · simp only [hi, hge, b1, if_true, if_false]
        apply ev_some
        rw [okUp, hS1, decide_eq_false b1, Bool.false_and, Bool.false_and]
theorem spec_RingOk_ev (l : List (S128)) (head tail : Int) (hl : l.length ≤ 1048576) (hw : (Lit.int .i64 head).wf = true) (hw2 : (Lit.int .i64 tail).wf = true) : Ev (fun k => spec_RingOk.f k l head tail) (pRingOk l head tail) := by
  have e0 : wrap64 ((l.length : Int) - 1) = l.length - 1 := w64 (by omega) (by omega)
  simp only [spec_RingOk.f, e0]
  refine Ev.bind (spec_l01In_ev _ _ _) ?_
  have hno : ¬ ringIn l head tail → Ev (fun k => spec_RingOk.j0 k (l.length : Int) true l head tail) (pRingOk l head tail) := by
    intro hn
    apply ev_succ
    simp only [spec_RingOk.j0, if_true]
    apply ev_some
    rw [pRingOk, decide_eq_false hn, Bool.false_and]
  by_cases a1 : 1 ≤ (l.length : Int) ∧ (l.length : Int) ≤ 8
  · simp only [a1, and_self, decide_true, if_true]
    refine Ev.bind (spec_l01In_ev _ _ _) ?_
    by_cases a2 : 0 ≤ head ∧ head ≤ (l.length : Int) - 1
    · simp only [a2, and_self, decide_true, if_true]
      refine Ev.bind (spec_l01In_ev _ _ _) ?_
      by_cases a3 : 0 ≤ tail ∧ tail ≤ (l.length : Int) - 1
      · simp only [a3, and_self, decide_true, Bool.not_true]
        have hin : ringIn l head tail := ⟨by omega, a2, a3⟩
        rw [pRingOk, decide_eq_true hin, Bool.true_and]
        have cz : ¬ (l.length : Int) = 0 := by omega
        have e1 : wrap64 (head - tail) = head - tail := w64 (by omega) (by omega)
        have e2 : wrap64 (head - tail + l.length) = head - tail + l.length := w64 (by omega) (by omega)
        have e3 : Int.tmod (head - tail + l.length) (l.length : Int) = (head - tail + l.length) % l.length := ring_tmod (by omega)
        have k1 : 0 ≤ head := by omega
        have k2 : head < (l.length : Int) := by omega
        have hloop := fun held => spec_RingOk_l0 l head tail held (by omega) (by omega) a3 l.length 0 (by omega) (by omega)
        have hj2 : ∀ held, Ev (fun k => spec_RingOk.j2 k (l.length : Int) held l head tail) (okUp (pSlot l tail held) 0 l.length) := by
          intro held
          apply ev_succ
          simp only [spec_RingOk.j2]
          exact hloop held
        apply ev_succ
        simp only [spec_RingOk.j0, Bool.false_eq_true, if_false, cz, e1, e2, e3]
        by_cases hz : (head - tail + l.length) % l.length = 0
        · simp only [hz, if_true, k1, k2]
          apply ev_succ
          by_cases ho : (rd_T128 l head).f0 = 1
          · simp only [spec_RingOk.j1, ho, beq_self_eq_true, if_true]
            rw [pHeld, if_pos ⟨hz, ho⟩]
            exact hj2 _
          · have ho' : ((rd_T128 l head).f0 == 1) = false := by simpa using ho
            simp only [spec_RingOk.j1, ho', Bool.false_eq_true, if_false]
            rw [pHeld, if_neg (fun h => ho h.2), hz]
            exact hj2 _
        · simp only [hz, if_false]
          apply ev_succ
          simp only [spec_RingOk.j1, Bool.false_eq_true, if_false]
          rw [pHeld, if_neg (fun h => hz h.1)]
          exact hj2 _
      · simp only [a3, decide_false, Bool.not_false]
        exact hno (fun h => a3 h.2.2)
    · simp only [a2, decide_false, Bool.false_eq_true, if_false]
      exact hno (fun h => a2 h.2.1)
  · simp only [a1, decide_false, Bool.false_eq_true, if_false]
    exact hno (fun h => a1 (by have := h.1; omega))

theorem spec_PostRing_ev (l : List (S128)) (a b : Int) (s : ByteArray) (hl : l.length ≤ 1048576) (hw : (Lit.int .i64 a).wf = true) (hw2 : (Lit.int .i64 b).wf = true) : Ev (fun k => spec_PostRing.f k l a b s) (pPost l a b s) := by
  have e0 : 0 + l.length < 5864062014805 := by omega
  simp only [spec_PostRing.f, spec_l09Copy.f, Option.bind_some, List.nil_append, List.length_nil, e0, if_true]
  refine Ev.bind (spec_RingOk_ev l a b hl hw hw2) ?_
  by_cases h1 : pRingOk l a b = true
  · have hin := pRingOk_in h1
    have k1 : 0 ≤ a := hin.2.1.1
    have k2 : a < (l.length : Int) := by have := hin.2.1.2; omega
    have k3 : ¬ (l.length : Int) = 0 := by omega
    have e1 : wrap64 (a + 1) = a + 1 := w64 (by omega) (by omega)
    have e2 : Int.tmod (a + 1) (l.length : Int) = (a + 1) % l.length := ring_tmod (by omega)
    simp only [h1, if_true, k1, k2, k3, if_false, e1, e2]
    refine Ev.bind (spec_l01In_ev _ _ _) ?_
    by_cases h3 : 1 ≤ (s.size : Int) ∧ (s.size : Int) ≤ 100
    · simp only [h3, and_self, decide_true, if_true]
      by_cases h2 : (rd_T128 l a).f0 = 1
      · simp only [h2, if_true]
        rw [pPost_no (fun h => h.2.1 h2)]
        exact Ev.now _
      · simp only [h2, if_false]
        rw [pPost_yes h1 h2 h3]
        exact Ev.now _
    · rw [pPost_no (fun h => h3 h.2.2)]
      simp only [h3, decide_false, Bool.false_eq_true, if_false]
      exact Ev.now _
  · rw [pPost_no (fun h => h1 h.1)]
    simp only [h1, if_false]
    exact Ev.now _

theorem laws_markText_l0 (n : Nat) : ∀ s : ByteArray, s.size + n ≤ 140737488355328 → Ev (fun k => laws_markText.l0 k (n : Int) s) (decF n s) := by
  induction n using Nat.strongRecOn with
  | ind n ih =>
    intro s hs
    apply ev_succ
    by_cases hn : n = 0
    · subst hn
      have c : ¬ ((0 : Nat) : Int) > 0 := by omega
      have c2 : 1 + s.size ≤ 9223372036854775807 := by omega
      simp only [laws_markText.l0, c, c2, if_true, if_false]
      rw [decF_zero]
      exact Ev.now _
    · have c : (n : Int) > 0 := by omega
      have e1 : wrap64 (48 + Int.tmod (n : Int) 10) % 256 = ((48 + n % 10 : Nat) : Int) := by
        rw [Int.tmod_eq_emod_of_nonneg (by omega), w64 (by omega) (by omega)]; omega
      have e2 : wrap64 (Int.tdiv (n : Int) 10) = ((n / 10 : Nat) : Int) := by
        rw [Int.tdiv_eq_ediv_of_nonneg (by omega), w64 (by omega) (by omega)]; omega
      have c2 : (strOfNums [((48 + n % 10 : Nat) : Int)]).size + s.size ≤ 9223372036854775807 := by rw [str_len]; simp; omega
      simp only [laws_markText.l0, c, if_true, e1, e2, Option.bind_some, c2]
      rw [decF_more hn]
      refine ih (n / 10) (by omega) _ ?_
      rw [size_app, str_len]; simp; omega
theorem laws_markText_ev (k : Int) (h : k ≤ 140737488355328) : Ev (fun n => laws_markText.f n k) (markT k) := by
  simp only [laws_markText.f]
  by_cases c : k ≤ 0
  · simp only [c, if_true]
    rw [markT, if_pos c]
    exact Ev.now _
  · simp only [c, if_false]
    rw [markT, if_neg c]
    obtain ⟨n, rfl⟩ := Int.eq_ofNat_of_zero_le (show 0 ≤ k by omega)
    have := laws_markText_l0 n ⟨#[]⟩ (by simp [ByteArray.size]; omega)
    simpa using this

def mkSlot (a : Int) : Nat → List (S128)
  | 0 => []
  | n + 1 => ⟨a, markT (a + 1)⟩ :: mkSlot (a + 1 + 1) n
theorem mkSlot_len (a : Int) (n : Nat) : (mkSlot a n).length = n := by
  induction n generalizing a with
  | zero => rfl
  | succ n ih => simp [mkSlot, ih]
theorem mkSlot_get (a : Int) (n i : Nat) (h : i < n) : (mkSlot a n)[i]? = some ⟨(a + 2 * (i : Int)), markT ((a + 2 * (i : Int)) + 1)⟩ := by
  induction n generalizing a i with
  | zero => omega
  | succ n ih =>
    cases i with
    | zero => simp [mkSlot]
    | succ i =>
      simp only [mkSlot, List.getElem?_cons_succ]
      rw [ih _ _ (by omega)]
      rw [show (a + 1 + 1) + 2 * (i : Int) = a + 2 * ((i + 1 : Nat) : Int) by omega]
theorem laws_markSlotS_ev (l : List (S128)) (a : Int) (ha : 0 ≤ a) (hb : a ≤ 70368744177664) (hl : l.length ≤ 1099511627776) : Ev (fun k => laws_markSlotS.f k l a) (a + 2 * l.length, mkSlot a l.length) := by
  simp only [laws_markSlotS.f]
  have key := loop_up (fun k (s : List (S128) × Int) i => laws_markSlotS.l0 k s.1 s.2 i) (l.length : Int) (a + 2 * l.length, mkSlot a l.length)
    (fun s i => s.1.length = l.length ∧ s.2 = a + 2 * i ∧ s.1.take i.toNat = (mkSlot a l.length).take i.toNat)
    (fun s hs => by
      obtain ⟨b, x⟩ := s
      obtain ⟨hb, rfl, ht⟩ := hs
      simp only at hb ht ⊢
      have c : ¬ (l.length : Int) < (b.length : Int) := by omega
      simp only [laws_markSlotS.l0, c, if_false]
      apply ev_some
      rw [List.take_of_length_le (by omega), List.take_of_length_le (by rw [mkSlot_len]; omega)] at ht
      rw [ht])
    (fun s i h0 h1 hs ih => by
      obtain ⟨b, x⟩ := s
      obtain ⟨hb, rfl, ht⟩ := hs
      simp only at hb ht ⊢
      have h1' : i < (b.length : Int) := by omega
      have hr : ∀ v, rd_T128 (b.set i.toNat v) i = v := fun v => get_set b i v h0 h1' z128
      have hfin := ih (b.set i.toNat ⟨(a + 2 * i), markT ((a + 2 * i) + 1)⟩, (a + 2 * i) + 1 + 1) ⟨by simp [hb], by simp only; omega, by
        simp only
        rw [show (i + 1).toNat = i.toNat + 1 by omega]
        refine take_set (mkSlot a l.length) b i.toNat _ (by rw [mkSlot_len]; exact hb) (by rw [mkSlot_len]; omega) ht ?_
        rw [mkSlot_get _ _ _ (by omega), show ((i.toNat : Nat) : Int) = i by omega]⟩
      have e1 : wrap64 ((a + 2 * i) + 1) = (a + 2 * i) + 1 := w64 (by omega) (by omega)
      have e2 : wrap64 ((a + 2 * i) + 1 + 1) = (a + 2 * i) + 1 + 1 := w64 (by omega) (by omega)
      have ei : wrap64 (i + 1) = i + 1 := w64 (by omega) (by omega)
      simp only [laws_markSlotS.l0, h1', h0, if_true, e1, e2, ei, Option.bind_some, hr, List.set_set]
      refine Ev.bind (laws_markText_ev _ (by omega)) ?_
      try simp only [h1', h0, if_true, Option.bind_some, hr, List.set_set]
      exact hfin)
  exact key l.length 0 (l, a) (by omega) (by omega) ⟨rfl, by simp, by simp⟩
theorem laws_heldSlotS_ev (a : Int) (n : Nat) (ha : 0 ≤ a) (hb : a ≤ 70368744177664) (hn : n ≤ 1099511627776) : Ev (fun k => laws_heldSlotS.f k (mkSlot a n) a) (a + 2 * n) := by
  simp only [laws_heldSlotS.f]
  have key := loop_up (fun k (s : Int) i => laws_heldSlotS.l0 k (mkSlot a n) s i) (n : Int) (a + 2 * n) (fun s i => s = a + 2 * i)
    (fun s hs => by
      subst hs
      have c : ¬ (n : Int) < ((mkSlot a n).length : Int) := by rw [mkSlot_len]; omega
      simp only [laws_heldSlotS.l0, c, if_false]
      exact Ev.now _)
    (fun s i h0 h1 hs ih => by
      subst hs
      have hfin := ih ((a + 2 * i) + 1 + 1) (by omega)
      have c : i < ((mkSlot a n).length : Int) := by rw [mkSlot_len]; omega
      have he : rd_T128 (mkSlot a n) i = ⟨(a + 2 * i), markT ((a + 2 * i) + 1)⟩ := by
        have hg := mkSlot_get a n i.toNat (by omega)
        rw [show ((i.toNat : Nat) : Int) = i by omega] at hg
        unfold rd_T128
        rw [List.getD_eq_getElem?_getD, hg]
        rfl
      have e1 : wrap64 ((a + 2 * i) + 1) = (a + 2 * i) + 1 := w64 (by omega) (by omega)
      have e2 : wrap64 ((a + 2 * i) + 1 + 1) = (a + 2 * i) + 1 + 1 := w64 (by omega) (by omega)
      have ei : wrap64 (i + 1) = i + 1 := w64 (by omega) (by omega)
      simp only [laws_heldSlotS.l0, c, h0, if_true, e1, e2, ei, he]
      refine Ev.bind (laws_markText_ev _ (by omega)) ?_
      simp only [if_true]
      exact hfin)
  exact key n 0 a (by omega) (by omega) (by omega)

theorem laws_markRing_ev (l : List (S128)) (a b c : Int) (hc : 0 ≤ c) (hc2 : c ≤ 70368744177664) (hl : l.length ≤ 1099511627776) : Ev (fun k => laws_markRing.f k l a b c) (c + 2 * l.length, mkSlot c l.length) := by
  simp only [laws_markRing.f]
  exact Ev.bind (laws_markSlotS_ev l c hc hc2 hl) (Ev.now _)
theorem laws_heldRing_ev (a b c : Int) (n : Nat) (hc : 0 ≤ c) (hc2 : c ≤ 70368744177664) (hn : n ≤ 1099511627776) : Ev (fun k => laws_heldRing.f k (mkSlot c n) a b c) (c + 2 * n) := by
  simp only [laws_heldRing.f]
  refine Ev.bind (laws_heldSlotS_ev c n hc hc2 hn) ?_
  have h : ¬ c + 2 * (n : Int) < 0 := by omega
  simp only [h, if_false]
  exact Ev.now _

theorem FnExactPostRing : OpenFnExactPostRing.Stmt := by
  intro l a b s hl ha hb hs
  apply ev_rounds
  simp only [laws_FnExactPostRing.f]
  by_cases cs : (s.size : Int) > 1048576
  · simp only [cs, if_true]
    exact Ev.now _
  simp only [cs, if_false]
  obtain ⟨r, hr, hrr⟩ := laws_szRing_ev l a b 1048576 (by decide) (by decide) hl.1 (fun x hx => (hl.2 x hx).2)
  refine Ev.bind hr ?_
  rcases hrr with hn | ⟨hn, hle, hll, hg⟩
  · simp only [hn, if_true]
    exact Ev.now _
  · have hn' : ¬ r < 0 := by omega
    simp only [hn', if_false]
    have hlen : l.length ≤ 1048576 := by omega
    have hlen' : (l.map cvSlot).length ≤ 1048576 := by simpa using hlen
    have ht := laws_toRing_ev l a b hlen
    have hI := impl_PostRing_ev _ _ _ s hlen' ha hb
    have hS := spec_PostRing_ev _ _ _ s hlen' ha hb
    have hpl := pPost_len (l.map cvSlot) a b s
    obtain ⟨p, q, t, o, hp⟩ : ∃ p q t o, pPost (l.map cvSlot) a b s = (p, q, t, o) := ⟨_, _, _, _, rfl⟩
    rw [hp] at hI hS hpl
    simp only at hpl
    have hq := laws_eqRing_ev p q t (by omega)
    have hq0 := laws_eqRing_ev (l.map cvSlot) a b (by omega)
    have hm0 := laws_markRing_ev (l.map cvSlot) a b 1 (by decide) (by decide) (by omega)
    have hm := laws_markRing_ev p q t 1 (by decide) (by decide) (by omega)
    have hh := laws_heldRing_ev q t 1 p.length (by decide) (by decide) (by omega)
    have h1 : ¬ (1 + 2 * ((l.map cvSlot).length : Int)) < 0 := by omega
    have h2 : ¬ (1 + 2 * (p.length : Int)) < 0 := by omega
    refine Ev.bind ht ?_
    refine Ev.bind hS ?_
    refine Ev.bind ht ?_
    refine Ev.bind hI ?_
    refine Ev.bind hq ?_
    simp only [if_true, bne_self_eq_false]
    apply ev_succ
    simp only [laws_FnExactPostRing.j0, Bool.false_eq_true, if_false]
    refine Ev.bind ht ?_
    refine Ev.bind hq0 ?_
    simp only [if_true]
    refine Ev.bind hm0 ?_
    simp only [h1, if_false]
    refine Ev.bind hq ?_
    simp only [if_true, bne_self_eq_false]
    apply ev_succ
    simp only [laws_FnExactPostRing.j1, Bool.false_eq_true, if_false]
    refine Ev.bind hm ?_
    refine Ev.bind hh ?_
    simp only [h2, if_false, if_true]
    refine Ev.bind ht ?_
    refine Ev.bind hI ?_
    refine Ev.bind hq ?_
    simp only [if_true, bne_self_eq_false]
    apply ev_succ
    simp only [laws_FnExactPostRing.j2, Bool.false_eq_true, if_false]
    refine Ev.bind hh ?_
    simp only [h2, if_false, if_true]
    exact Ev.now _

end Go.Proofs.Ytnnpbkocfboalaa.Pure
