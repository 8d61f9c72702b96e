/- A drawn ring takes texts until it is full, and gives what it holds in order: for every code. -/
import Derived.Test.YtaainenplcokaaaQFnRingsx7
import Derived.Test.YtaainenplcokaaaBaseL
import Derived.Test.YtaainenplcokaaaBaseS
import Derived.Test.YtaainenplcokaaaBaseD
import Derived.Lib.ItoaMem
namespace Go.Proofs.Ytaainenplcokaaa.Pure
open Go.RowKit Go.Proofs.Ytaainenplcokaaa.QFnRings Go.Proofs.YtaainenplcokaaaW.PrintWords Go.Proofs.YtaainenplcokaaaW.PrintLast Go.Proofs.YtaainenplcokaaaW.PrintMore Go.Proofs.Ytaainenplcokaaa.Base
set_option linter.unusedVariables false
set_option linter.unusedSimpArgs false

theorem impl_within_ev (a b c : Int) : Ev (fun _ => impl_within.f a b c) (decide (b ≤ a ∧ a ≤ c)) := by
  apply ev_const
  unfold impl_within.f
  by_cases h : a ≥ b
  · rw [if_pos h]; simp [show b ≤ a from h]
  · rw [if_neg h]; simp [show ¬ b ≤ a from h]

def okUp (P : Int → Bool) : Int → Nat → Bool
  | _, 0 => true
  | i, d + 1 => P i && okUp P (i + 1) d
def pSlot (l : List (S138)) (tail held i : Int) : Bool :=
  if i < held then decide ((rd_T138 l ((tail + i) % l.length)).f0 = 1) && decide (1 ≤ (rd_T138 l ((tail + i) % l.length)).f1.size ∧ (rd_T138 l ((tail + i) % l.length)).f1.size ≤ 100)
  else decide ((rd_T138 l ((tail + i) % l.length)).f0 = 0) && ((rd_T138 l ((tail + i) % l.length)).f1.toList == ([] : List UInt8))
def pHeld (l : List (S138)) (head tail : Int) : Int :=
  if (head - tail + l.length) % l.length = 0 ∧ (rd_T138 l head).f0 = 1 then l.length else (head - tail + l.length) % l.length
def ringIn (l : List (S138)) (head tail : Int) : Prop := (1 ≤ l.length ∧ l.length ≤ 8) ∧ (0 ≤ head ∧ head ≤ l.length - 1) ∧ (0 ≤ tail ∧ tail ≤ l.length - 1)
instance (l : List (S138)) (head tail : Int) : Decidable (ringIn l head tail) := by unfold ringIn; infer_instance
def pRingOk (l : List (S138)) (head tail : Int) : Bool := decide (ringIn l head tail) && okUp (pSlot l tail (pHeld l head tail)) 0 l.length
theorem ring_tmod {x n : Int} (h0 : 0 ≤ x) : Int.tmod x n = x % n := Int.tmod_eq_emod_of_nonneg h0

theorem impl_RingOk_l0 (l : List (S138)) (head tail held : Int) (h1 : 1 ≤ l.length) (h8 : l.length ≤ 8) (ht : 0 ≤ tail ∧ tail ≤ l.length - 1) : ∀ (d : Nat) (i : Int), 0 ≤ i → i + d = l.length →
    Ev (fun k => impl_RingOk.l0 k (l.length : Int) held (l.length : Int) i l head tail) (okUp (pSlot l tail held) i d) := by
  intro d
  induction d with
  | zero =>
    intro i h0 h
    apply ev_succ
    have c : ¬ i < (l.length : Int) := by omega
    simp only [impl_RingOk.l0, c, if_false]
    exact Ev.now _
  | succ d ih =>
    intro i h0 h
    apply ev_succ
    have c : i < (l.length : Int) := by omega
    have cz : ¬ (l.length : Int) = 0 := by omega
    have e1 : wrap64 (i + 1) = i + 1 := w64 (by omega) (by omega)
    have e2 : wrap64 (tail + i) = tail + i := w64 (by omega) (by omega)
    have e3 : Int.tmod (tail + i) (l.length : Int) = (tail + i) % l.length := ring_tmod (by omega)
    have k1 : 0 ≤ (tail + i) % (l.length : Int) := Int.emod_nonneg _ (by omega)
    have k2 : (tail + i) % (l.length : Int) < (l.length : Int) := Int.emod_lt_of_pos _ (by omega)
    have hh := ih (i + 1) (by omega) (by omega)
    have hs : rd_T138 l ((tail + i) % l.length) = rd_T138 l ((tail + i) % l.length) := rfl
    simp only [impl_RingOk.l0, c, cz, if_true, if_false, e1, e2, e3, k1, k2]
    obtain ⟨s, hs⟩ : ∃ s, rd_T138 l ((tail + i) % l.length) = s := ⟨_, rfl⟩
    rw [hs]
    clear k1 k2 e1 e2 e3
    by_cases hi : i < held
    · have hS1 : pSlot l tail held i = (decide (s.f0 = 1) && decide (1 ≤ s.f1.size ∧ s.f1.size ≤ 100)) := by rw [pSlot, if_pos hi, hs]
      have hge : ¬ i ≥ held := by omega
      by_cases b1 : s.f0 = 1
      · simp only [hi, b1, if_true]
        refine Ev.bind (impl_within_ev _ _ _) ?_
        by_cases b2 : 1 ≤ s.f1.size ∧ s.f1.size ≤ 100
        · have b2' : 1 ≤ (s.f1.size : Int) ∧ (s.f1.size : Int) ≤ 100 := by omega
          simp only [b2', and_self, decide_true, if_true, hge, if_false]
          rw [okUp, hS1, b1]
          simpa [b2] using hh
        · have b2' : ¬ (1 ≤ (s.f1.size : Int) ∧ (s.f1.size : Int) ≤ 100) := by omega
          simp only [b2', decide_false, Bool.false_eq_true, if_false]
          apply ev_some
          rw [okUp, hS1, decide_eq_false b2, Bool.and_false, Bool.false_and]
      · simp only [hi, b1, if_true, if_false]
        apply ev_some
        rw [okUp, hS1, decide_eq_false b1, Bool.false_and, Bool.false_and]
    · have hS1 : pSlot l tail held i = (decide (s.f0 = 0) && (s.f1.toList == ([] : List UInt8))) := by rw [pSlot, if_neg hi, hs]
      have hge : i ≥ held := by omega
      have hb : (!(s.f0 == 0) || (!(s.f1.toList == ([] : List UInt8)))) = !(decide (s.f0 = 0) && (s.f1.toList == ([] : List UInt8))) := by
        by_cases b1 : s.f0 = 0 <;> simp [b1]
      have hfin : Ev (fun k => if (!(s.f0 == 0) || (!(s.f1.toList == ([] : List UInt8)))) = true then some false else impl_RingOk.l0 k (l.length : Int) held (l.length : Int) (i + 1) l head tail) (okUp (pSlot l tail held) i (d + 1)) := by
        rw [okUp, hS1, hb]
        by_cases b2 : (decide (s.f0 = 0) && (s.f1.toList == ([] : List UInt8))) = true
        · simp only [b2, Bool.not_true, Bool.false_eq_true, if_false, Bool.true_and]
          exact hh
        · rw [Bool.not_eq_true] at b2
          simp only [b2, Bool.not_false, if_true, Bool.false_and]
          exact Ev.now _
      by_cases b1 : s.f0 = 1
      · simp only [hi, hge, b1, if_true, if_false]
        refine Ev.bind (impl_within_ev _ _ _) ?_
        rw [b1] at hfin
        exact hfin
      · simp only [hi, hge, b1, if_true, if_false]
        exact hfin
theorem impl_RingOk_ev (l : List (S138)) (head tail : Int) (hl : l.length ≤ 1048576) (hw : (Lit.int .i64 head).wf = true) (hw2 : (Lit.int .i64 tail).wf = true) : Ev (fun k => impl_RingOk.f k l head tail) (pRingOk l head tail) := by
  have e0 : wrap64 ((l.length : Int) - 1) = l.length - 1 := w64 (by omega) (by omega)
  simp only [impl_RingOk.f, e0]
  refine Ev.bind (impl_within_ev _ _ _) ?_
  have hno : ¬ ringIn l head tail → Ev (fun k => impl_RingOk.j0 k (l.length : Int) true l head tail) (pRingOk l head tail) := by
    intro hn
    apply ev_succ
    simp only [impl_RingOk.j0, if_true]
    apply ev_some
    rw [pRingOk, decide_eq_false hn, Bool.false_and]
  by_cases a1 : 1 ≤ (l.length : Int) ∧ (l.length : Int) ≤ 8
  · simp only [a1, and_self, decide_true, if_true]
    refine Ev.bind (impl_within_ev _ _ _) ?_
    by_cases a2 : 0 ≤ head ∧ head ≤ (l.length : Int) - 1
    · simp only [a2, and_self, decide_true, if_true]
      refine Ev.bind (impl_within_ev _ _ _) ?_
      by_cases a3 : 0 ≤ tail ∧ tail ≤ (l.length : Int) - 1
      · simp only [a3, and_self, decide_true, Bool.not_true]
        have hin : ringIn l head tail := ⟨by omega, a2, a3⟩
        rw [pRingOk, decide_eq_true hin, Bool.true_and]
        have cz : ¬ (l.length : Int) = 0 := by omega
        have e1 : wrap64 (head - tail) = head - tail := w64 (by omega) (by omega)
        have e2 : wrap64 (head - tail + l.length) = head - tail + l.length := w64 (by omega) (by omega)
        have e3 : Int.tmod (head - tail + l.length) (l.length : Int) = (head - tail + l.length) % l.length := ring_tmod (by omega)
        have k1 : 0 ≤ head := by omega
        have k2 : head < (l.length : Int) := by omega
        have hloop := fun held => impl_RingOk_l0 l head tail held (by omega) (by omega) a3 l.length 0 (by omega) (by omega)
        have hj2 : ∀ held, Ev (fun k => impl_RingOk.j2 k (l.length : Int) held l head tail) (okUp (pSlot l tail held) 0 l.length) := by
          intro held
          apply ev_succ
          simp only [impl_RingOk.j2]
          exact hloop held
        apply ev_succ
        simp only [impl_RingOk.j0, Bool.false_eq_true, if_false, cz, e1, e2, e3]
        by_cases hz : (head - tail + l.length) % l.length = 0
        · simp only [hz, if_true, k1, k2]
          apply ev_succ
          by_cases ho : (rd_T138 l head).f0 = 1
          · simp only [impl_RingOk.j1, ho, beq_self_eq_true, if_true]
            rw [pHeld, if_pos ⟨hz, ho⟩]
            exact hj2 _
          · have ho' : ((rd_T138 l head).f0 == 1) = false := by simpa using ho
            simp only [impl_RingOk.j1, ho', Bool.false_eq_true, if_false]
            rw [pHeld, if_neg (fun h => ho h.2), hz]
            exact hj2 _
        · simp only [hz, if_false]
          apply ev_succ
          simp only [impl_RingOk.j1, Bool.false_eq_true, if_false]
          rw [pHeld, if_neg (fun h => hz h.1)]
          exact hj2 _
      · simp only [a3, decide_false, Bool.not_false]
        exact hno (fun h => a3 h.2.2)
    · simp only [a2, decide_false, Bool.false_eq_true, if_false]
      exact hno (fun h => a2 h.2.1)
  · simp only [a1, decide_false, Bool.false_eq_true, if_false]
    exact hno (fun h => a1 (by have := h.1; omega))

def pPost (l : List (S138)) (a b : Int) (s : ByteArray) : List (S138) × Int × Int × Bool :=
  if pRingOk l a b = true ∧ ¬ (rd_T138 l a).f0 = 1 ∧ (1 ≤ (s.size : Int) ∧ (s.size : Int) ≤ 100) then (l.set a.toNat ⟨1, s⟩, (a + 1) % l.length, b, true) else (l, a, b, false)
theorem pPost_len (l : List (S138)) (a b : Int) (s : ByteArray) : (pPost l a b s).1.length = l.length := by
  unfold pPost
  split <;> simp
theorem pPost_yes {l : List (S138)} {a b : Int} {s : ByteArray} (h1 : pRingOk l a b = true) (h2 : ¬ (rd_T138 l a).f0 = 1) (h3 : 1 ≤ (s.size : Int) ∧ (s.size : Int) ≤ 100) : pPost l a b s = (l.set a.toNat ⟨1, s⟩, (a + 1) % l.length, b, true) := if_pos ⟨h1, h2, h3⟩
theorem pPost_no {l : List (S138)} {a b : Int} {s : ByteArray} (h : ¬ (pRingOk l a b = true ∧ ¬ (rd_T138 l a).f0 = 1 ∧ (1 ≤ (s.size : Int) ∧ (s.size : Int) ≤ 100))) : pPost l a b s = (l, a, b, false) := if_neg h
theorem pRingOk_in {l : List (S138)} {a b : Int} (h : pRingOk l a b = true) : ringIn l a b := by
  rw [pRingOk, Bool.and_eq_true] at h
  exact of_decide_eq_true h.1
theorem impl_PostRing_ev (l : List (S138)) (a b : Int) (s : ByteArray) (hl : l.length ≤ 1048576) (hw : (Lit.int .i64 a).wf = true) (hw2 : (Lit.int .i64 b).wf = true) : Ev (fun k => impl_PostRing.f k l a b s) (pPost l a b s) := by
  have e0 : 0 + l.length < 5864062014805 := by omega
  simp only [impl_PostRing.f, impl_copyRing.f, Option.bind_some, List.nil_append, List.length_nil, e0, if_true]
  refine Ev.bind (impl_RingOk_ev l a b hl hw hw2) ?_
  by_cases h1 : pRingOk l a b = true
  · have hin := pRingOk_in h1
    have k1 : 0 ≤ a := hin.2.1.1
    have k2 : a < (l.length : Int) := by have := hin.2.1.2; omega
    have k3 : ¬ (l.length : Int) = 0 := by omega
    have e1 : wrap64 (a + 1) = a + 1 := w64 (by omega) (by omega)
    have e2 : Int.tmod (a + 1) (l.length : Int) = (a + 1) % l.length := ring_tmod (by omega)
    simp only [h1, if_true, k1, k2, k3, if_false, e1, e2]
    by_cases h2 : (rd_T138 l a).f0 = 1
    · simp only [h2, if_true]
      rw [pPost_no (fun h => h.2.1 h2)]
      exact Ev.now _
    · simp only [h2, if_false]
      refine Ev.bind (impl_within_ev _ _ _) ?_
      by_cases h3 : 1 ≤ (s.size : Int) ∧ (s.size : Int) ≤ 100
      · rw [pPost_yes h1 h2 h3]
        simp only [h3, and_self, decide_true, if_true]
        exact Ev.now _
      · rw [pPost_no (fun h => h3 h.2.2)]
        simp only [h3, decide_false, Bool.false_eq_true, if_false]
        exact Ev.now _
  · rw [pPost_no (fun h => h1 h.1)]
    simp only [h1, if_false]
    exact Ev.now _

theorem spec_l01In_ev (a b c : Int) : Ev (fun _ => spec_l01In.f a b c) (decide (b ≤ a ∧ a ≤ c)) := by
  apply ev_const
  unfold spec_l01In.f
  by_cases h : a ≥ b
  · rw [if_pos h]; simp [show b ≤ a from h]
  · rw [if_neg h]; simp [show ¬ b ≤ a from h]

theorem spec_RingOk_l0 (l : List (S138)) (head tail held : Int) (h1 : 1 ≤ l.length) (h8 : l.length ≤ 8) (ht : 0 ≤ tail ∧ tail ≤ l.length - 1) : ∀ (d : Nat) (i : Int), 0 ≤ i → i + d = l.length →
    Ev (fun k => spec_RingOk.l0 k (l.length : Int) held i l head tail) (okUp (pSlot l tail held) i d) := by
  intro d
  induction d with
  | zero =>
    intro i h0 h
    apply ev_succ
    have c : ¬ i < (l.length : Int) := by omega
    simp only [spec_RingOk.l0, c, if_false]
    exact Ev.now _
  | succ d ih =>
    intro i h0 h
    apply ev_succ
    have c : i < (l.length : Int) := by omega
    have cz : ¬ (l.length : Int) = 0 := by omega
    have e1 : wrap64 (i + 1) = i + 1 := w64 (by omega) (by omega)
    have e2 : wrap64 (tail + i) = tail + i := w64 (by omega) (by omega)
    have e3 : Int.tmod (tail + i) (l.length : Int) = (tail + i) % l.length := ring_tmod (by omega)
    have k1 : 0 ≤ (tail + i) % (l.length : Int) := Int.emod_nonneg _ (by omega)
    have k2 : (tail + i) % (l.length : Int) < (l.length : Int) := Int.emod_lt_of_pos _ (by omega)
    have hh := ih (i + 1) (by omega) (by omega)
    have hs : rd_T138 l ((tail + i) % l.length) = rd_T138 l ((tail + i) % l.length) := rfl
    simp only [spec_RingOk.l0, c, cz, if_true, if_false, e1, e2, e3, k1, k2]
    obtain ⟨s, hs⟩ : ∃ s, rd_T138 l ((tail + i) % l.length) = s := ⟨_, rfl⟩
    rw [hs]
    clear k1 k2 e1 e2 e3
    by_cases hi : i < held
    · have hS1 : pSlot l tail held i = (decide (s.f0 = 1) && decide (1 ≤ s.f1.size ∧ s.f1.size ≤ 100)) := by rw [pSlot, if_pos hi, hs]
      have hge : ¬ i ≥ held := by omega
      by_cases b1 : s.f0 = 1
      · simp only [hi, b1, if_true]
        refine Ev.bind (spec_l01In_ev _ _ _) ?_
        by_cases b2 : 1 ≤ s.f1.size ∧ s.f1.size ≤ 100
        · have b2' : 1 ≤ (s.f1.size : Int) ∧ (s.f1.size : Int) ≤ 100 := by omega
          simp only [b2', and_self, decide_true, if_true, hge, if_false]
          rw [okUp, hS1, b1]
          simpa [b2] using hh
        · have b2' : ¬ (1 ≤ (s.f1.size : Int) ∧ (s.f1.size : Int) ≤ 100) := by omega
          simp only [b2', decide_false, Bool.false_eq_true, if_false]
          apply ev_some
          rw [okUp, hS1, decide_eq_false b2, Bool.and_false, Bool.false_and]
      · simp only [hi, b1, if_true, if_false]
        apply ev_some
        rw [okUp, hS1, decide_eq_false b1, Bool.false_and, Bool.false_and]
    · have hS1 : pSlot l tail held i = (decide (s.f0 = 0) && (s.f1.toList == ([] : List UInt8))) := by rw [pSlot, if_neg hi, hs]
      have hge : i ≥ held := by omega
      by_cases b1 : s.f0 = 0
      · by_cases b2 : s.f1.toList = ([] : List UInt8)
        · simp only [hi, hge, b1, b2, if_true, if_false]
          rw [okUp, hS1, b1, b2]
          simpa using hh
        · simp only [hi, hge, b1, b2, if_true, if_false]
          apply ev_some
          rw [okUp, hS1]
          simp [b2]
      · simp only [hi, hge, b1, if_true, if_false]
        apply ev_some
        rw [okUp, hS1, decide_eq_false b1, Bool.false_and, Bool.false_and]
theorem spec_RingOk_ev (l : List (S138)) (head tail : Int) (hl : l.length ≤ 1048576) (hw : (Lit.int .i64 head).wf = true) (hw2 : (Lit.int .i64 tail).wf = true) : Ev (fun k => spec_RingOk.f k l head tail) (pRingOk l head tail) := by
  have e0 : wrap64 ((l.length : Int) - 1) = l.length - 1 := w64 (by omega) (by omega)
  simp only [spec_RingOk.f, e0]
  refine Ev.bind (spec_l01In_ev _ _ _) ?_
  have hno : ¬ ringIn l head tail → Ev (fun k => spec_RingOk.j0 k (l.length : Int) true l head tail) (pRingOk l head tail) := by
    intro hn
    apply ev_succ
    simp only [spec_RingOk.j0, if_true]
    apply ev_some
    rw [pRingOk, decide_eq_false hn, Bool.false_and]
  by_cases a1 : 1 ≤ (l.length : Int) ∧ (l.length : Int) ≤ 8
  · simp only [a1, and_self, decide_true, if_true]
    refine Ev.bind (spec_l01In_ev _ _ _) ?_
    by_cases a2 : 0 ≤ head ∧ head ≤ (l.length : Int) - 1
    · simp only [a2, and_self, decide_true, if_true]
      refine Ev.bind (spec_l01In_ev _ _ _) ?_
      by_cases a3 : 0 ≤ tail ∧ tail ≤ (l.length : Int) - 1
      · simp only [a3, and_self, decide_true, Bool.not_true]
        have hin : ringIn l head tail := ⟨by omega, a2, a3⟩
        rw [pRingOk, decide_eq_true hin, Bool.true_and]
        have cz : ¬ (l.length : Int) = 0 := by omega
        have e1 : wrap64 (head - tail) = head - tail := w64 (by omega) (by omega)
        have e2 : wrap64 (head - tail + l.length) = head - tail + l.length := w64 (by omega) (by omega)
        have e3 : Int.tmod (head - tail + l.length) (l.length : Int) = (head - tail + l.length) % l.length := ring_tmod (by omega)
        have k1 : 0 ≤ head := by omega
        have k2 : head < (l.length : Int) := by omega
        have hloop := fun held => spec_RingOk_l0 l head tail held (by omega) (by omega) a3 l.length 0 (by omega) (by omega)
        have hj2 : ∀ held, Ev (fun k => spec_RingOk.j2 k (l.length : Int) held l head tail) (okUp (pSlot l tail held) 0 l.length) := by
          intro held
          apply ev_succ
          simp only [spec_RingOk.j2]
          exact hloop held
        apply ev_succ
        simp only [spec_RingOk.j0, Bool.false_eq_true, if_false, cz, e1, e2, e3]
        by_cases hz : (head - tail + l.length) % l.length = 0
        · simp only [hz, if_true, k1, k2]
          apply ev_succ
          by_cases ho : (rd_T138 l head).f0 = 1
          · simp only [spec_RingOk.j1, ho, beq_self_eq_true, if_true]
            rw [pHeld, if_pos ⟨hz, ho⟩]
            exact hj2 _
          · have ho' : ((rd_T138 l head).f0 == 1) = false := by simpa using ho
            simp only [spec_RingOk.j1, ho', Bool.false_eq_true, if_false]
            rw [pHeld, if_neg (fun h => ho h.2), hz]
            exact hj2 _
        · simp only [hz, if_false]
          apply ev_succ
          simp only [spec_RingOk.j1, Bool.false_eq_true, if_false]
          rw [pHeld, if_neg (fun h => hz h.1)]
          exact hj2 _
      · simp only [a3, decide_false, Bool.not_false]
        exact hno (fun h => a3 h.2.2)
    · simp only [a2, decide_false, Bool.false_eq_true, if_false]
      exact hno (fun h => a2 h.2.1)
  · simp only [a1, decide_false, Bool.false_eq_true, if_false]
    exact hno (fun h => a1 (by have := h.1; omega))

theorem spec_PostRing_ev (l : List (S138)) (a b : Int) (s : ByteArray) (hl : l.length ≤ 1048576) (hw : (Lit.int .i64 a).wf = true) (hw2 : (Lit.int .i64 b).wf = true) : Ev (fun k => spec_PostRing.f k l a b s) (pPost l a b s) := by
  have e0 : 0 + l.length < 5864062014805 := by omega
  simp only [spec_PostRing.f, spec_l09Copy.f, Option.bind_some, List.nil_append, List.length_nil, e0, if_true]
  refine Ev.bind (spec_RingOk_ev l a b hl hw hw2) ?_
  by_cases h1 : pRingOk l a b = true
  · have hin := pRingOk_in h1
    have k1 : 0 ≤ a := hin.2.1.1
    have k2 : a < (l.length : Int) := by have := hin.2.1.2; omega
    have k3 : ¬ (l.length : Int) = 0 := by omega
    have e1 : wrap64 (a + 1) = a + 1 := w64 (by omega) (by omega)
    have e2 : Int.tmod (a + 1) (l.length : Int) = (a + 1) % l.length := ring_tmod (by omega)
    simp only [h1, if_true, k1, k2, k3, if_false, e1, e2]
    refine Ev.bind (spec_l01In_ev _ _ _) ?_
    by_cases h3 : 1 ≤ (s.size : Int) ∧ (s.size : Int) ≤ 100
    · simp only [h3, and_self, decide_true, if_true]
      by_cases h2 : (rd_T138 l a).f0 = 1
      · simp only [h2, if_true]
        rw [pPost_no (fun h => h.2.1 h2)]
        exact Ev.now _
      · simp only [h2, if_false]
        rw [pPost_yes h1 h2 h3]
        exact Ev.now _
    · rw [pPost_no (fun h => h3 h.2.2)]
      simp only [h3, decide_false, Bool.false_eq_true, if_false]
      exact Ev.now _
  · rw [pPost_no (fun h => h1 h.1)]
    simp only [h1, if_false]
    exact Ev.now _

theorem modn {x n : Int} (hn : 1 ≤ n ∧ n ≤ 8) (hx : 0 ≤ x ∧ x < 2 * n) : x % n = if x < n then x else x - n := by
  have : n = 1 ∨ n = 2 ∨ n = 3 ∨ n = 4 ∨ n = 5 ∨ n = 6 ∨ n = 7 ∨ n = 8 := by omega
  rcases this with rfl | rfl | rfl | rfl | rfl | rfl | rfl | rfl <;> split <;> omega
theorem rd_slot_set (l : List (S138)) (i j : Int) (s : S138) (hi : 0 ≤ i ∧ i < l.length) (hj : 0 ≤ j ∧ j < l.length) : rd_T138 (l.set j.toNat s) i = if i = j then s else rd_T138 l i := by
  unfold rd_T138
  by_cases h : i = j
  · subst h
    rw [if_pos rfl, List.getD_eq_getElem?_getD, List.getElem?_set_self (by omega), Option.getD_some]
  · rw [if_neg h, List.getD_eq_getElem?_getD, List.getD_eq_getElem?_getD, List.getElem?_set_ne (by omega)]
structure IsRing (l : List (S138)) (head tail : Int) (q : List ByteArray) : Prop where
  n1 : 1 ≤ l.length
  n8 : l.length ≤ 8
  t : 0 ≤ tail ∧ tail < l.length
  h : head = (tail + q.length) % l.length
  ql : q.length ≤ l.length
  qs : ∀ x ∈ q, 1 ≤ x.size ∧ x.size ≤ 100
  full : ∀ i : Nat, i < q.length → rd_T138 l ((tail + i) % l.length) = ⟨1, q.getD i ⟨#[]⟩⟩
  free : ∀ i : Nat, q.length ≤ i → i < l.length → rd_T138 l ((tail + i) % l.length) = ⟨0, ⟨#[]⟩⟩
  cnt : (l.countP fun s => s.f0 == 1) = q.length
theorem okUp_all {P : Int → Bool} : ∀ (d : Nat) (a : Int), (∀ i, a ≤ i → i < a + d → P i = true) → okUp P a d = true := by
  intro d
  induction d with
  | zero => intro a _; rfl
  | succ d ih =>
    intro a h
    rw [okUp, h a (by omega) (by omega), ih (a + 1) (fun i h1 h2 => h i (by omega) (by omega))]; rfl
theorem IsRing.head_in {l : List (S138)} {head tail : Int} {q : List ByteArray} (r : IsRing l head tail q) : 0 ≤ head ∧ head < l.length := by
  have h1 := r.n1; have h8 := r.n8; have ht := r.t; have hq := r.ql
  rw [r.h, modn ⟨by omega, by omega⟩ ⟨by omega, by omega⟩]
  split <;> omega
theorem IsRing.at_head {l : List (S138)} {head tail : Int} {q : List ByteArray} (r : IsRing l head tail q) : (rd_T138 l head).f0 = if q.length = l.length then 1 else 0 := by
  have h1 := r.n1; have h8 := r.n8; have ht := r.t; have hq := r.ql
  by_cases h : q.length = l.length
  · rw [if_pos h]
    have e := r.full 0 (by omega)
    have eh : head = (tail + ((0 : Nat) : Int)) % l.length := by
      rw [r.h, modn ⟨by omega, by omega⟩ ⟨by omega, by omega⟩, modn ⟨by omega, by omega⟩ ⟨by omega, by omega⟩]
      split <;> split <;> omega
    rw [eh, e]
  · rw [if_neg h]
    have e := r.free q.length (by omega) (by omega)
    rw [r.h, e]
theorem IsRing.at_tail {l : List (S138)} {head tail : Int} {q : List ByteArray} (r : IsRing l head tail q) : rd_T138 l tail = if q.length = 0 then ⟨0, ⟨#[]⟩⟩ else ⟨1, q.getD 0 ⟨#[]⟩⟩ := by
  have h1 := r.n1; have h8 := r.n8; have ht := r.t; have hq := r.ql
  have et : tail = (tail + ((0 : Nat) : Int)) % l.length := by
    rw [modn ⟨by omega, by omega⟩ ⟨by omega, by omega⟩]
    split <;> omega
  by_cases h : q.length = 0
  · rw [if_pos h]
    have e := r.free 0 (by omega) (by omega)
    rw [← et] at e; exact e
  · rw [if_neg h]
    have e := r.full 0 (by omega)
    rw [← et] at e; exact e
theorem IsRing.held {l : List (S138)} {head tail : Int} {q : List ByteArray} (r : IsRing l head tail q) : pHeld l head tail = q.length := by
  have h1 := r.n1; have h8 := r.n8; have ht := r.t; have hq := r.ql
  have hh := r.at_head
  have hm : (head - tail + l.length) % (l.length : Int) = if q.length = l.length then 0 else (q.length : Int) := by
    have e := r.h
    rw [modn ⟨by omega, by omega⟩ ⟨by omega, by omega⟩] at e
    have hi := r.head_in
    rw [modn ⟨by omega, by omega⟩ ⟨by omega, by omega⟩]
    by_cases c : q.length = l.length
    · rw [if_pos c]
      split at e <;> split <;> omega
    · rw [if_neg c]
      split at e <;> split <;> omega
  unfold pHeld
  rw [hm, hh]
  by_cases c : q.length = l.length
  · simp [c]
  · rw [if_neg c, if_neg c, if_neg (fun h => absurd h.2 (by decide))]
theorem IsRing.ok {l : List (S138)} {head tail : Int} {q : List ByteArray} (r : IsRing l head tail q) : pRingOk l head tail = true := by
  have h1 := r.n1; have h8 := r.n8; have ht := r.t; have hq := r.ql
  have hi := r.head_in
  unfold pRingOk
  rw [decide_eq_true (show ringIn l head tail from ⟨⟨h1, h8⟩, ⟨by omega, by omega⟩, ⟨by omega, by omega⟩⟩), Bool.true_and, r.held]
  refine okUp_all _ _ (fun i h0 hn => ?_)
  obtain ⟨j, rfl⟩ := Int.eq_ofNat_of_zero_le h0
  unfold pSlot
  by_cases c : j < q.length
  · have e := r.full j c
    have hs := r.qs (q.getD j ⟨#[]⟩) (by rw [List.getD_eq_getElem?_getD, List.getElem?_eq_getElem c, Option.getD_some]; exact List.getElem_mem c)
    rw [if_pos (by omega), e]
    show (decide ((1 : Int) = 1) && decide (1 ≤ (q.getD j ⟨#[]⟩).size ∧ (q.getD j ⟨#[]⟩).size ≤ 100)) = true
    rw [decide_eq_true hs]; rfl
  · have e := r.free j (by omega) (by omega)
    rw [if_neg (by omega), e]
    show (decide ((0 : Int) = 0) && ((⟨#[]⟩ : ByteArray).toList == ([] : List UInt8))) = true
    rw [show (⟨#[]⟩ : ByteArray).toList = ([] : List UInt8) from by rw [data_eq]]; rfl
theorem cnt_set (l : List (S138)) : ∀ (j : Nat) (s : S138) (h : j < l.length), ((l.set j s).countP fun s => s.f0 == 1) + (if (l[j]).f0 = 1 then 1 else 0) = (l.countP fun s => s.f0 == 1) + (if s.f0 = 1 then 1 else 0) := by
  induction l with
  | nil => intro j s h; simp at h
  | cons a l ih =>
    intro j s h
    cases j with
    | zero =>
      simp only [List.set_cons_zero, List.countP_cons, List.getElem_cons_zero, beq_iff_eq]
      omega
    | succ j =>
      have := ih j s (by simpa using h)
      simp only [List.set_cons_succ, List.countP_cons, List.getElem_cons_succ]
      omega
theorem rd_slot_get (l : List (S138)) (i : Int) (h : 0 ≤ i ∧ i < l.length) : rd_T138 l i = l[i.toNat]'(by omega) := by
  unfold rd_T138
  rw [List.getD_eq_getElem?_getD, List.getElem?_eq_getElem (by omega), Option.getD_some]
theorem IsRing.post {l : List (S138)} {head tail : Int} {q : List ByteArray} (r : IsRing l head tail q) (s : ByteArray) (hs : 1 ≤ s.size ∧ s.size ≤ 100) (hf : q.length < l.length) :
    IsRing (l.set head.toNat ⟨1, s⟩) ((head + 1) % l.length) tail (q ++ [s]) := by
  have h1 := r.n1; have h8 := r.n8; have ht := r.t; have hq := r.ql
  have hi := r.head_in
  have hh := r.h
  have hl : (l.set head.toNat (⟨1, s⟩ : S138)).length = l.length := List.length_set
  have hle : (q ++ [s]).length = q.length + 1 := by simp
  have key : ∀ i : Nat, i < l.length → (tail + (i : Int)) % (l.length : Int) = head → i = q.length := by
    intro i hil e
    rw [hh, modn ⟨by omega, by omega⟩ ⟨by omega, by omega⟩, modn ⟨by omega, by omega⟩ ⟨by omega, by omega⟩] at e
    split at e <;> split at e <;> omega
  have rng : ∀ i : Nat, i < l.length → 0 ≤ (tail + (i : Int)) % (l.length : Int) ∧ (tail + (i : Int)) % (l.length : Int) < l.length := fun i _ => ⟨Int.emod_nonneg _ (by omega), Int.emod_lt_of_pos _ (by omega)⟩
  refine ⟨by omega, by omega, by omega, ?_, by omega, ?_, ?_, ?_, ?_⟩
  · rw [hl, hle, hh]
    rw [modn (x := tail + (q.length : Int)) ⟨by omega, by omega⟩ ⟨by omega, by omega⟩]
    split
    · congr 1; omega
    · rw [modn ⟨by omega, by omega⟩ ⟨by omega, by omega⟩, modn ⟨by omega, by omega⟩ ⟨by omega, by omega⟩]
      split <;> split <;> omega
  · intro x hx
    rcases List.mem_append.1 hx with h | h
    · exact r.qs x h
    · rw [List.mem_singleton] at h; rw [h]; exact hs
  · intro i hil
    rw [hl, rd_slot_set _ _ _ _ (rng i (by omega)) hi]
    by_cases c : i = q.length
    · rw [if_pos (by rw [c]; exact hh.symm), c, List.getD_eq_getElem?_getD, List.getElem?_append_right (by omega)]
      simp
    · rw [if_neg (fun e => c (key i (by omega) e)), r.full i (by omega), List.getD_eq_getElem?_getD, List.getD_eq_getElem?_getD, List.getElem?_append_left (by omega)]
  · intro i h2 h3
    rw [hl, rd_slot_set _ _ _ _ (rng i (by omega)) hi, if_neg (fun e => by have := key i (by omega) e; omega), r.free i (by omega) (by omega)]
  · have hc := cnt_set l head.toNat ⟨1, s⟩ (by omega)
    have ha := r.at_head
    rw [rd_slot_get l head hi, if_neg (by omega)] at ha
    rw [ha] at hc
    have := r.cnt
    simp at hc
    omega
theorem IsRing.take {l : List (S138)} {head tail : Int} {x : ByteArray} {q : List ByteArray} (r : IsRing l head tail (x :: q)) :
    IsRing (l.set tail.toNat ⟨0, ⟨#[]⟩⟩) head ((tail + 1) % l.length) q := by
  have h1 := r.n1; have h8 := r.n8; have ht := r.t; have hq := r.ql
  have hi := r.head_in
  have hh := r.h
  have hl : (l.set tail.toNat (⟨0, ⟨#[]⟩⟩ : S138)).length = l.length := List.length_set
  have hle : (x :: q).length = q.length + 1 := rfl
  have tt : (tail + 1) % (l.length : Int) = if tail + 1 < (l.length : Int) then tail + 1 else tail + 1 - l.length := modn ⟨by omega, by omega⟩ ⟨by omega, by omega⟩
  have tr : 0 ≤ (tail + 1) % (l.length : Int) ∧ (tail + 1) % (l.length : Int) < l.length := ⟨Int.emod_nonneg _ (by omega), Int.emod_lt_of_pos _ (by omega)⟩
  have sh : ∀ i : Nat, i < l.length → ((tail + 1) % (l.length : Int) + (i : Int)) % (l.length : Int) = if i + 1 < l.length then (tail + ((i + 1 : Nat) : Int)) % (l.length : Int) else tail := by
    intro i hil
    rw [modn (x := (tail + 1) % (l.length : Int) + (i : Int)) ⟨by omega, by omega⟩ ⟨by omega, by omega⟩, tt]
    by_cases c : i + 1 < l.length
    · rw [if_pos c, modn ⟨by omega, by omega⟩ ⟨by omega, by omega⟩]
      split <;> split <;> split <;> omega
    · rw [if_neg c]
      split <;> split <;> omega
  have key : ∀ i : Nat, 0 < i → i < l.length → (tail + (i : Int)) % (l.length : Int) ≠ tail := by
    intro i h0 hil e
    rw [modn ⟨by omega, by omega⟩ ⟨by omega, by omega⟩] at e
    split at e <;> omega
  have rng : ∀ i : Nat, i < l.length → 0 ≤ (tail + (i : Int)) % (l.length : Int) ∧ (tail + (i : Int)) % (l.length : Int) < l.length := fun i _ => ⟨Int.emod_nonneg _ (by omega), Int.emod_lt_of_pos _ (by omega)⟩
  refine ⟨by omega, by omega, by rw [hl]; exact tr, ?_, by omega, fun y hy => r.qs y (List.mem_cons_of_mem _ hy), ?_, ?_, ?_⟩
  · rw [hl, hh, hle, sh q.length (by omega)]
    by_cases c : q.length + 1 < l.length
    · rw [if_pos c]
    · rw [if_neg c, modn ⟨by omega, by omega⟩ ⟨by omega, by omega⟩]
      split <;> omega
  · intro i hil
    rw [hl, sh i (by omega), if_pos (by omega), rd_slot_set _ _ _ _ (rng (i + 1) (by omega)) ht, if_neg (key (i + 1) (by omega) (by omega)), r.full (i + 1) (by omega)]
    rfl
  · intro i h2 h3
    rw [hl, sh i (by omega)]
    by_cases c : i + 1 < l.length
    · rw [if_pos c, rd_slot_set _ _ _ _ (rng (i + 1) (by omega)) ht, if_neg (key (i + 1) (by omega) c), r.free (i + 1) (by omega) c]
    · rw [if_neg c, rd_slot_set _ _ _ _ ht ht, if_pos rfl]
  · have hc := cnt_set l tail.toNat ⟨0, ⟨#[]⟩⟩ (by omega)
    have ha := r.at_tail
    rw [rd_slot_get l tail ht, if_neg (by omega)] at ha
    rw [ha] at hc
    have := r.cnt
    simp at hc
    omega

def pTake (l : List (S138)) (a b : Int) : List (S138) × Int × Int × ByteArray × Bool :=
  if pRingOk l a b = true ∧ ¬ (rd_T138 l b).f0 = 0 then (l.set b.toNat ⟨0, ⟨#[]⟩⟩, a, (b + 1) % l.length, (rd_T138 l b).f1, true) else (l, a, b, ⟨#[]⟩, false)
theorem pTake_yes {l : List (S138)} {a b : Int} (h1 : pRingOk l a b = true) (h2 : ¬ (rd_T138 l b).f0 = 0) : pTake l a b = (l.set b.toNat ⟨0, ⟨#[]⟩⟩, a, (b + 1) % l.length, (rd_T138 l b).f1, true) := if_pos ⟨h1, h2⟩
theorem pTake_no {l : List (S138)} {a b : Int} (h : ¬ (pRingOk l a b = true ∧ ¬ (rd_T138 l b).f0 = 0)) : pTake l a b = (l, a, b, ⟨#[]⟩, false) := if_neg h
theorem impl_TakeRing_ev (l : List (S138)) (a b : Int) (hl : l.length ≤ 1048576) (hw : (Lit.int .i64 a).wf = true) (hw2 : (Lit.int .i64 b).wf = true) : Ev (fun k => impl_TakeRing.f k l a b) (pTake l a b) := by
  have e0 : 0 + l.length < 5864062014805 := by omega
  simp only [impl_TakeRing.f, impl_copyRing.f, Option.bind_some, List.nil_append, List.length_nil, e0, if_true]
  refine Ev.bind (impl_RingOk_ev l a b hl hw hw2) ?_
  by_cases h1 : pRingOk l a b = true
  · have hin := pRingOk_in h1
    have k1 : 0 ≤ b := hin.2.2.1
    have k2 : b < (l.length : Int) := by have := hin.2.2.2; omega
    have k3 : ¬ (l.length : Int) = 0 := by omega
    have e1 : wrap64 (b + 1) = b + 1 := w64 (by omega) (by omega)
    have e2 : Int.tmod (b + 1) (l.length : Int) = (b + 1) % l.length := ring_tmod (by omega)
    simp only [h1, if_true, k1, k2, k3, if_false, e1, e2]
    by_cases h2 : (rd_T138 l b).f0 = 0
    · simp only [h2, if_true]
      rw [pTake_no (fun h => h.2 h2)]
      exact Ev.now _
    · simp only [h2, if_false]
      rw [pTake_yes h1 h2]
      exact Ev.now _
  · rw [pTake_no (fun h => h1 h.1)]
    simp only [h1, if_false]
    exact Ev.now _
theorem spec_TakeRing_ev (l : List (S138)) (a b : Int) (hl : l.length ≤ 1048576) (hw : (Lit.int .i64 a).wf = true) (hw2 : (Lit.int .i64 b).wf = true) : Ev (fun k => spec_TakeRing.f k l a b) (pTake l a b) := by
  have e0 : 0 + l.length < 5864062014805 := by omega
  simp only [spec_TakeRing.f, spec_l09Copy.f, Option.bind_some, List.nil_append, List.length_nil, e0, if_true]
  refine Ev.bind (spec_RingOk_ev l a b hl hw hw2) ?_
  by_cases h1 : pRingOk l a b = true
  · have hin := pRingOk_in h1
    have k1 : 0 ≤ b := hin.2.2.1
    have k2 : b < (l.length : Int) := by have := hin.2.2.2; omega
    have k3 : ¬ (l.length : Int) = 0 := by omega
    have e1 : wrap64 (b + 1) = b + 1 := w64 (by omega) (by omega)
    have e2 : Int.tmod (b + 1) (l.length : Int) = (b + 1) % l.length := ring_tmod (by omega)
    simp only [h1, if_true, k1, k2, k3, if_false, e1, e2]
    by_cases h2 : (rd_T138 l b).f0 = 0
    · simp only [h2, if_true]
      rw [pTake_no (fun h => h.2 h2)]
      exact Ev.now _
    · simp only [h2, if_false]
      rw [pTake_yes h1 h2]
      exact Ev.now _
  · rw [pTake_no (fun h => h1 h.1)]
    simp only [h1, if_false]
    exact Ev.now _
theorem wf8 {a : Int} (h : 0 ≤ a ∧ a < 8) : (Lit.int .i64 a).wf = true := by
  have : a = 0 ∨ a = 1 ∨ a = 2 ∨ a = 3 ∨ a = 4 ∨ a = 5 ∨ a = 6 ∨ a = 7 := by omega
  rcases this with rfl | rfl | rfl | rfl | rfl | rfl | rfl | rfl <;> decide
theorem IsRing.wf {l : List (S138)} {a b : Int} {q : List ByteArray} (r : IsRing l a b q) : (Lit.int .i64 a).wf = true ∧ (Lit.int .i64 b).wf = true := by
  have h8 := r.n8; have ht := r.t; have hi := r.head_in
  exact ⟨wf8 (by omega), wf8 (by omega)⟩
theorem IsRing.posted {l : List (S138)} {a b : Int} {q : List ByteArray} (r : IsRing l a b q) (s : ByteArray) (hs : 1 ≤ s.size ∧ s.size ≤ 100) (hf : q.length < l.length) :
    pPost l a b s = (l.set a.toNat ⟨1, s⟩, (a + 1) % l.length, b, true) :=
  pPost_yes r.ok (by rw [r.at_head, if_neg (by omega)]; decide) (by omega)
theorem IsRing.post_full {l : List (S138)} {a b : Int} {q : List ByteArray} (r : IsRing l a b q) (s : ByteArray) (hf : q.length = l.length) : pPost l a b s = (l, a, b, false) :=
  pPost_no (fun h => h.2.1 (by rw [r.at_head, if_pos hf]))
theorem IsRing.post_any {l : List (S138)} {a b : Int} {q : List ByteArray} (r : IsRing l a b q) (s : ByteArray) : ∃ q', IsRing (pPost l a b s).1 (pPost l a b s).2.1 (pPost l a b s).2.2.1 q' := by
  by_cases h : q.length < l.length ∧ (1 ≤ s.size ∧ s.size ≤ 100)
  · rw [r.posted s h.2 h.1]; exact ⟨_, r.post s h.2 h.1⟩
  · rw [pPost_no (fun hh => h ⟨by
      have := r.ql
      rcases Nat.lt_or_ge q.length l.length with c | c
      · exact c
      · exact absurd (by rw [r.at_head, if_pos (by omega)]) hh.2.1, by have := hh.2.2; omega⟩)]
    exact ⟨q, r⟩
theorem IsRing.taken {l : List (S138)} {a b : Int} {x : ByteArray} {q : List ByteArray} (r : IsRing l a b (x :: q)) : pTake l a b = (l.set b.toNat ⟨0, ⟨#[]⟩⟩, a, (b + 1) % l.length, x, true) := by
  have ht := r.at_tail
  rw [if_neg (by simp)] at ht
  rw [pTake_yes r.ok (by rw [ht]; show ¬ (1 : Int) = 0; decide), ht]
  rfl
theorem IsRing.take_empty {l : List (S138)} {a b : Int} (r : IsRing l a b []) : pTake l a b = (l, a, b, ⟨#[]⟩, false) := by
  have ht := r.at_tail
  simp only [List.length_nil, if_true] at ht
  exact pTake_no (fun h => h.2 (by rw [ht]))
theorem IsRing.take_any {l : List (S138)} {a b : Int} {q : List ByteArray} (r : IsRing l a b q) : ∃ q', IsRing (pTake l a b).1 (pTake l a b).2.1 (pTake l a b).2.2.1 q' := by
  cases q with
  | nil => rw [r.take_empty]; exact ⟨[], r⟩
  | cons x q => rw [r.taken]; exact ⟨q, r.take⟩
theorem IsRing.fresh (n : Nat) (h : 1 ≤ n ∧ n ≤ 8) : IsRing (List.replicate n z138) 0 0 [] := by
  refine ⟨by simp; omega, by simp; omega, by simp; omega, by simp, by simp, by simp, fun i hi => by simp at hi, fun i _ hi => ?_, ?_⟩
  · rw [List.length_replicate] at hi ⊢
    have hm : ((0 : Int) + (i : Int)) % (n : Int) = i := by rw [Int.zero_add]; exact Int.emod_eq_of_lt (by omega) (by omega)
    rw [hm, rd_slot_get _ _ ⟨by omega, by rw [List.length_replicate]; omega⟩]
    simp
    rfl
  · rw [List.countP_eq_zero.2]
    · rfl
    · intro x hx
      rw [List.eq_of_mem_replicate hx]
      decide
theorem IsRing.heldBy {l : List (S138)} {a b : Int} {q : List ByteArray} (r : IsRing l a b q) : l.countP (fun s => s.f0 == 1) = q.length := r.cnt

def held1 (l : List (S138)) : Nat := (l.filter fun x => decide (x.f0 = 1)).length
theorem held1_snoc (l : List (S138)) (i : Int) (h0 : 0 ≤ i) (h1 : i < l.length) : held1 (l.take (i + 1).toNat) = held1 (l.take i.toNat) + if (rd_T138 l i).f0 = 1 then 1 else 0 := by
  have hl : i.toNat < l.length := by omega
  rw [show (i + 1).toNat = i.toNat + 1 by omega, List.take_add_one, getElem_rd l i h0 h1 z138, held1, held1, List.filter_append, List.length_append]
  show _ + (List.filter (fun x => decide (x.f0 = 1)) [rd_T138 l i]).length = _
  by_cases h : (rd_T138 l i).f0 = 1 <;> simp [h]
theorem held1_le (l : List (S138)) : held1 l ≤ l.length := List.length_filter_le _ _
theorem impl_HeldBy_ev (l : List (S138)) (a b : Int) (hl : l.length ≤ 1048576) : Ev (fun k => impl_HeldBy.f k l a b) (held1 l : Int) := by
  simp only [impl_HeldBy.f]
  have key := loop_up (fun k (x : Int) i => impl_HeldBy.l0 k x l (l.length : Int) i) (l.length : Int) (held1 l : Int) (fun x i => x = held1 (l.take i.toNat))
    (fun x hx => by
      rw [List.take_of_length_le (by omega)] at hx
      have c : ¬ (l.length : Int) < (l.length : Int) := by omega
      simp only [impl_HeldBy.l0, c, if_false]
      exact ev_some hx)
    (fun x i h0 h1 hx ih => by
      have hle := held1_le (l.take i.toNat)
      rw [List.length_take] at hle
      have hs := held1_snoc l i h0 h1
      have e1 : wrap64 (x + 1) = x + 1 := w64 (by omega) (by omega)
      have e2 : wrap64 (i + 1) = i + 1 := w64 (by omega) (by omega)
      by_cases hc : (rd_T138 l i).f0 = 1
      · simp only [impl_HeldBy.l0, h1, h0, hc, if_true, e1, e2]
        rw [if_pos hc] at hs
        exact ih _ (by rw [hs, hx]; simp)
      · simp only [impl_HeldBy.l0, h1, h0, hc, if_true, if_false, e2]
        rw [if_neg hc] at hs
        exact ih _ (by rw [hs, hx]; simp))
  exact key l.length 0 0 (by omega) (by omega) (by simp [held1])

def pRingNew (n : Int) : List (S138) × Int × Int × Bool := if 1 ≤ n ∧ n ≤ 8 then (List.replicate n.toNat z138, 0, 0, true) else ([], 0, 0, false)
theorem pRingNew_len (n : Int) : (pRingNew n).1.length ≤ 8 := by
  unfold pRingNew
  split
  · rw [List.length_replicate]; omega
  · exact Nat.zero_le _
theorem spec_RingNew_ev (n : Int) : Ev (fun _ => spec_RingNew.f n) (pRingNew n) := by
  simp only [spec_RingNew.f]
  refine Ev.bind (spec_l01In_ev _ _ _) ?_
  by_cases h : 1 ≤ n ∧ n ≤ 8
  · have c1 : 0 ≤ n := by omega
    have c2 : ∀ m : Nat, 8 ≤ m → n.toNat ≤ m := fun m hm => by omega
    simp only [h, and_self, decide_true, if_true, c1, c2 _ (show 8 ≤ 11728124029610 by decide)]
    apply ev_some
    rw [pRingNew, if_pos h]
  · simp only [h, decide_false, Bool.false_eq_true, if_false]
    apply ev_some
    rw [pRingNew, if_neg h]

theorem spec_l01New_l0 (l : List Int) (hl : l.length ≤ 140737488355328) : ∀ (d : Nat) (i h : Int), 0 ≤ i → i + d = l.length → ∃ g : Int, Ev (fun k => spec_l01New.l0 k l h i) (l, 0, g) := by
  intro d
  induction d with
  | zero =>
    intro i h h0 hd
    refine ⟨h, ev_succ ?_⟩
    have c : ¬ i < (l.length : Int) := by omega
    simp only [spec_l01New.l0, c, if_false]
    exact Ev.now _
  | succ d ih =>
    intro i h h0 hd
    have c : i < (l.length : Int) := by omega
    by_cases c2 : i < 4000
    · obtain ⟨g, hg⟩ := ih (i + 1) (Go.bits .and .i64 (wrap64 ((wrap64 ((wrap64 (h * 131)) + (wrap64 (rd l i)))) + 7)) 1073741823) (by omega) (by omega)
      refine ⟨g, ev_succ ?_⟩
      have e : wrap64 (i + 1) = i + 1 := w64 (by omega) (by omega)
      simp only [spec_l01New.l0, c, c2, h0, if_true, e]
      exact hg
    · refine ⟨h, ev_succ ?_⟩
      simp only [spec_l01New.l0, c, c2, if_true, if_false]
      exact Ev.now _
theorem spec_l01New_ev (l : List Int) (hl : l.length ≤ 140737488355328) : ∃ g : Int, Ev (fun k => spec_l01New.f k l) (l, 0, g) := by
  obtain ⟨g, hg⟩ := spec_l01New_l0 l hl l.length 0 (wrap64 (37401 + (l.length : Int))) (by omega) (by omega)
  exact ⟨g, by simp only [spec_l01New.f]; exact hg⟩
theorem spec_l01Byte_ev (s : List Int) (i h : Int) (hi : 0 ≤ i ∧ i ≤ s.length) (hs : s.length ≤ 140737488355328) : ∃ x j g, spec_l01Byte.f s i h = some (x, j, g) ∧ (0 ≤ x ∧ x ≤ 255) ∧ 0 ≤ j ∧ j ≤ (s.length : Int) := by
  by_cases c : i < (s.length : Int)
  · have e : wrap64 (i + 1) = i + 1 := w64 (by omega) (by omega)
    refine ⟨_, i + 1, _, by simp only [spec_l01Byte.f, c, hi.1, if_true, e]; rfl, and255 _, by omega, by omega⟩
  · refine ⟨_, i, _, by simp only [spec_l01Byte.f, c, if_false]; rfl, and255 _, hi⟩
theorem spec_l01Below_ev (s : List Int) (i h n : Int) (hi : 0 ≤ i ∧ i ≤ s.length) (hs : s.length ≤ 140737488355328) : ∃ x j g, spec_l01Below.f s i h n = some (x, j, g) ∧ (n ≤ 0 → x = 0) ∧ (0 < n → 0 ≤ x ∧ x < n) ∧ 0 ≤ j ∧ j ≤ (s.length : Int) := by
  by_cases c1 : n ≤ 0
  · exact ⟨0, i, h, by simp only [spec_l01Below.f, c1, if_true], fun _ => rfl, fun h => by omega, hi⟩
  have c3 : ¬ n = 0 := by omega
  by_cases c2 : n ≤ 256
  · obtain ⟨x, j, g, e, hx, hj⟩ := spec_l01Byte_ev s i h hi hs
    refine ⟨Int.tmod x n, j, g, by simp only [spec_l01Below.f, c1, c2, c3, if_true, if_false, e, Option.bind_some], fun h => absurd h c1, fun hn => tmod_in hx.1 hn, hj⟩
  · obtain ⟨x1, j1, g1, e1, hx1, hj1⟩ := spec_l01Byte_ev s i h hi hs
    obtain ⟨x2, j2, g2, e2, hx2, hj2⟩ := spec_l01Byte_ev s j1 g1 hj1 hs
    obtain ⟨x3, j3, g3, e3, hx3, hj3⟩ := spec_l01Byte_ev s j2 g2 hj2 hs
    obtain ⟨x4, j4, g4, e4, hx4, hj4⟩ := spec_l01Byte_ev s j3 g3 hj3 hs
    have f1 : wrap64 (x1 * 16777216) = x1 * 16777216 := w64 (by omega) (by omega)
    have f2 : wrap64 (x2 * 65536) = x2 * 65536 := w64 (by omega) (by omega)
    have f3 : wrap64 (x3 * 256) = x3 * 256 := w64 (by omega) (by omega)
    have f4 : wrap64 (x1 * 16777216 + x2 * 65536) = x1 * 16777216 + x2 * 65536 := w64 (by omega) (by omega)
    have f5 : wrap64 (x1 * 16777216 + x2 * 65536 + x3 * 256) = x1 * 16777216 + x2 * 65536 + x3 * 256 := w64 (by omega) (by omega)
    have f6 : wrap64 (x1 * 16777216 + x2 * 65536 + x3 * 256 + x4) = x1 * 16777216 + x2 * 65536 + x3 * 256 + x4 := w64 (by omega) (by omega)
    refine ⟨Int.tmod (x1 * 16777216 + x2 * 65536 + x3 * 256 + x4) n, j4, g4, by simp only [spec_l01Below.f, c1, c2, c3, if_false, e1, e2, e3, e4, Option.bind_some, f1, f2, f3, f4, f5, f6], fun h => absurd h c1, fun hn => tmod_in (by omega) hn, hj4⟩

theorem spec_l01Text_l0 (s : List Int) (hs : s.length ≤ 140737488355328) (n : Int) (hn : n ≤ 5000) : ∀ (d : Nat) (i : Int) (acc : List Int) (j g : Int), 0 ≤ i → i + d = n → (acc.length : Int) = i → 0 ≤ j ∧ j ≤ (s.length : Int) →
    ∃ t j2 g2, Ev (fun k => spec_l01Text.l0 k n acc i s j g) (t, j2, g2) ∧ (t.size : Int) = n ∧ 0 ≤ j2 ∧ j2 ≤ (s.length : Int) := by
  intro d
  induction d with
  | zero =>
    intro i acc j g h0 hd hl hj
    refine ⟨strOfNums acc, j, g, ev_succ ?_, by rw [str_len]; omega, hj⟩
    have c : ¬ i < n := by omega
    simp only [spec_l01Text.l0, c, if_false]
    exact Ev.now _
  | succ d ih =>
    intro i acc j g h0 hd hl hj
    have c : i < n := by omega
    obtain ⟨x, j2, g2, e, _, hj2⟩ := spec_l01Byte_ev s j g hj hs
    obtain ⟨t, j3, g3, hp, hp2⟩ := ih (i + 1) (acc ++ [x % 256]) j2 g2 (by omega) (by omega) (by rw [List.length_append]; simp; omega) hj2
    refine ⟨t, j3, g3, ev_succ ?_, hp2⟩
    have e1 : wrap64 (i + 1) = i + 1 := w64 (by omega) (by omega)
    have c2 : acc.length < 140737488355328 := by omega
    simp only [spec_l01Text.l0, c, if_true, e, Option.bind_some, c2, e1]
    exact hp
theorem spec_l01Text_ev (s : List Int) (i h n : Int) (hi : 0 ≤ i ∧ i ≤ s.length) (hs : s.length ≤ 140737488355328) (hn : 0 ≤ n) : ∃ t j g, Ev (fun k => spec_l01Text.f k s i h n) (t, j, g) ∧ (t.size : Int) ≤ n ∧ (t.size : Int) ≤ 5000 ∧ 0 ≤ j ∧ j ≤ (s.length : Int) := by
  by_cases c : n > 5000
  · obtain ⟨t, j, g, hp, h1, h2⟩ := spec_l01Text_l0 s hs 5000 (by omega) 5000 0 [] i h (by omega) (by omega) rfl hi
    refine ⟨t, j, g, ?_, by omega, by omega, h2⟩
    simp only [spec_l01Text.f, c, if_true]
    apply ev_succ
    simp only [spec_l01Text.j0]
    exact hp
  · obtain ⟨t, j, g, hp, h1, h2⟩ := spec_l01Text_l0 s hs n (by omega) n.toNat 0 [] i h (by omega) (by omega) rfl hi
    refine ⟨t, j, g, ?_, by omega, by omega, h2⟩
    simp only [spec_l01Text.f, c, if_false]
    apply ev_succ
    simp only [spec_l01Text.j0]
    exact hp

theorem spec_l01Once_ev (s : List Int) (i h n : Int) (hi : 0 ≤ i ∧ i ≤ s.length) (hs : s.length ≤ 140737488355328) : ∃ b j g, spec_l01Once.f s i h n = some (b, j, g) ∧ 0 ≤ j ∧ j ≤ (s.length : Int) := by
  obtain ⟨x, j, g, e, _, _, hj⟩ := spec_l01Below_ev s i h n hi hs
  exact ⟨x == 0, j, g, by simp only [spec_l01Once.f, e, Option.bind_some], hj⟩

theorem u8s (n : Nat) : UInt8.ofNat ((n : Int)).toNat = UInt8.ofNat n := by rw [Int.toNat_natCast]
def decU : Nat → ByteArray → ByteArray
  | n, s => if n = 0 then s else decU (n / 10) (strOfNums [((48 + n % 10 : Nat) : Int)] ++ s)
termination_by n => n
decreasing_by omega
theorem decU_zero (s : ByteArray) : decU 0 s = s := by rw [decU, if_pos rfl]
theorem decU_more {n : Nat} (h : n ≠ 0) (s : ByteArray) : decU n s = decU (n / 10) (strOfNums [((48 + n % 10 : Nat) : Int)] ++ s) := by rw [decU, if_neg h]
theorem one_str (n : Nat) : strOfNums [(n : Int)] = ⟨[UInt8.ofNat n].toArray⟩ := by
  simp only [strOfNums, List.map_cons, List.map_nil, u8s]
theorem two_str (a b : List UInt8) : (⟨a.toArray⟩ : ByteArray) ++ ⟨b.toArray⟩ = ⟨(a ++ b).toArray⟩ := by
  apply ByteArray.ext
  simp
theorem decU_eq (n : Nat) : ∀ s, n ≠ 0 → decU n s = ⟨(Lib.decDigits n).toArray⟩ ++ s := by
  induction n using Nat.strongRecOn with
  | ind n ih =>
    intro s h
    rw [decU_more h]
    by_cases c : n < 10
    · rw [show n / 10 = 0 by omega, decU_zero, one_str, show n % 10 = n by omega, Lib.decDigits, dif_pos c]
    · rw [ih (n / 10) (by omega) _ (by omega), one_str]
      conv => rhs; rw [Lib.decDigits, dif_neg c, ← two_str]
      exact (ByteArray.append_assoc).symm
theorem spec_l01Figure_ev (d : Int) (h0 : 0 ≤ d) (h1 : d < 10) : spec_l01Figure.f d = some (48 + d) := by
  have e : wrap64 (48 + d) = 48 + d := w64 (by omega) (by omega)
  have e2 : (48 + d) % 256 = 48 + d := by omega
  simp only [spec_l01Figure.f, h1, if_true, e, e2]
theorem spec_Decimal_l0 (neg : Bool) : ∀ (m : Nat) (x : Int) (s : ByteArray), x.natAbs < 10 ^ m → -9223372036854775808 ≤ x → x ≤ 9223372036854775807 → s.size + m ≤ 1000 →
    Ev (fun k => spec_Decimal.l0 k x neg s) (if neg = true then (⟨#[45]⟩ : ByteArray) ++ decU x.natAbs s else decU x.natAbs s) := by
  intro m
  induction m with
  | zero =>
    intro x s h hx hy hs
    apply ev_succ
    have hz : x = 0 := by simp at h; omega
    subst hz
    have c : 1 + s.size ≤ 9223372036854775807 := by omega
    simp only [spec_Decimal.l0, if_true, c, Int.natAbs_zero, decU_zero]
    cases neg <;> simp
  | succ m ih =>
    intro x s h hx hy hs
    by_cases hz : x = 0
    · subst hz
      apply ev_succ
      have c : 1 + s.size ≤ 9223372036854775807 := by omega
      simp only [spec_Decimal.l0, if_true, c, Int.natAbs_zero, decU_zero]
      cases neg <;> simp
    · apply ev_succ
      have hm : x.natAbs / 10 < 10 ^ m := by rw [Nat.pow_succ] at h; omega
      have ht : (Int.tdiv x 10).natAbs = x.natAbs / 10 := by rw [Int.natAbs_tdiv]; rfl
      have et : wrap64 (Int.tdiv x 10) = Int.tdiv x 10 := w64 (by omega) (by omega)
      have hn : x.natAbs ≠ 0 := by omega
      have hd : (Int.tmod x 10).natAbs = x.natAbs % 10 := by rw [Int.natAbs_tmod]; rfl
      have hlast : ∀ y : Int, y = ((48 + x.natAbs % 10 : Nat) : Int) → Ev (fun k => (some ([y] : List Int)).bind fun y_ => (if (strOfNums y_).size + s.size ≤ 9223372036854775807 then spec_Decimal.l0 k (wrap64 (Int.tdiv x 10)) neg (strOfNums y_ ++ s) else none)) (if neg = true then (⟨#[45]⟩ : ByteArray) ++ decU x.natAbs s else decU x.natAbs s) := by
        rintro y rfl
        have c : (strOfNums [((48 + x.natAbs % 10 : Nat) : Int)]).size + s.size ≤ 9223372036854775807 := by rw [str_len]; simp; omega
        simp only [Option.bind_some, c, if_true, et]
        rw [decU_more hn, ← ht]
        refine ih _ _ (by rw [ht]; exact hm) (by omega) (by omega) ?_
        rw [size_app, str_len]; simp; omega
      by_cases c : Int.tmod x 10 < 0
      · have e : wrap64 (-(Int.tmod x 10)) = -(Int.tmod x 10) := w64 (by omega) (by omega)
        simp only [spec_Decimal.l0, hz, if_false, c, if_true, e]
        rw [spec_l01Figure_ev _ (by omega) (by omega)]
        simp only [Option.bind_some]
        exact hlast _ (by omega)
      · simp only [spec_Decimal.l0, hz, if_false, c]
        rw [spec_l01Figure_ev _ (by omega) (by omega)]
        simp only [Option.bind_some]
        exact hlast _ (by omega)
theorem spec_Decimal_ev (n : Int) (h0 : -9223372036854775808 ≤ n) (h1 : n ≤ 9223372036854775807) : Ev (fun k => spec_Decimal.f k n) ⟨(Lib.itoa n).toArray⟩ := by
  by_cases hz : n = 0
  · subst hz
    have e : Lib.itoa 0 = [48] := by
      rw [Lib.itoa, if_neg (by decide), show (0 : Int).toNat = 0 from rfl, Lib.decDigits, dif_pos (by decide)]; rfl
    simp only [spec_Decimal.f, if_true, e]
    exact Ev.now _
  · have key := spec_Decimal_l0 (decide (n < 0)) 20 n ⟨#[]⟩ (by omega) h0 h1 (by decide)
    have hn : n.natAbs ≠ 0 := by omega
    rw [decU_eq _ _ hn] at key
    have e0 : ∀ l : List UInt8, (⟨l.toArray⟩ : ByteArray) ++ (⟨#[]⟩ : ByteArray) = ⟨l.toArray⟩ := fun l => by rw [show (⟨#[]⟩ : ByteArray) = ⟨([] : List UInt8).toArray⟩ from rfl, two_str, List.append_nil]
    rw [e0] at key
    simp only [spec_Decimal.f, hz, if_false]
    by_cases c : n < 0
    · have e1 : Lib.itoa n = [45] ++ Lib.decDigits n.natAbs := by rw [Lib.itoa, if_pos c]; rfl
      rw [e1, ← two_str]
      simpa [c] using key
    · have e1 : Lib.itoa n = Lib.decDigits n.natAbs := by rw [Lib.itoa, if_neg c, show n.toNat = n.natAbs by omega]
      rw [e1]
      simpa [c] using key

theorem held_cnt (l : List (S138)) : held1 l = l.countP (fun s => s.f0 == 1) := by
  rw [List.countP_eq_length_filter]; rfl
theorem heldBy_ev {l : List (S138)} {a b : Int} {q : List ByteArray} (r : IsRing l a b q) : Ev (fun k => impl_HeldBy.f k l a b) (q.length : Int) := by
  have h := impl_HeldBy_ev l a b (by have := r.n8; omega)
  rw [held_cnt, r.cnt] at h
  exact h
theorem l09Ring_l0 (s : List Int) (hs : s.length ≤ 140737488355328) : ∀ (d : Nat) (x j g : Int) (l : List (S138)) (a b : Int) (q : List ByteArray), 0 ≤ x → 20 ≤ x + d → x ≤ 1000 → 0 ≤ j ∧ j ≤ (s.length : Int) → IsRing l a b q →
    ∃ l' a' b' j' g' q', Ev (fun k => spec_l09Ring.l0 k x s j g l a b) (l', a', b', j', g') ∧ IsRing l' a' b' q' := by
  intro d
  induction d with
  | zero =>
    intro x j g l a b q h0 hd hx hj r
    obtain ⟨y, j2, g2, e, _, hy, hj2⟩ := spec_l01Below_ev s j g 20 hj hs
    have hy := hy (by decide)
    refine ⟨l, a, b, j2, g2, q, ev_succ ?_, r⟩
    have c : ¬ x < y := by omega
    simp only [spec_l09Ring.l0, e, Option.bind_some, c, if_false]
    exact Ev.now _
  | succ d ih =>
    intro x j g l a b q h0 hd hx hj r
    obtain ⟨y, j2, g2, e, _, hy, hj2⟩ := spec_l01Below_ev s j g 20 hj hs
    have hy := hy (by decide)
    by_cases c : x < y
    · have e1 : wrap64 (x + 1) = x + 1 := w64 (by omega) (by omega)
      obtain ⟨t, j3, g3, e3, hj3⟩ := spec_l01Once_ev s j2 g2 3 hj2 hs
      cases t with
      | true =>
        obtain ⟨q', r'⟩ := r.take_any
        obtain ⟨l', a', b', j', g', q2, hE, r2⟩ := ih (x + 1) j3 g3 _ _ _ q' (by omega) (by omega) (by omega) hj3 r'
        refine ⟨l', a', b', j', g', q2, ev_succ ?_, r2⟩
        simp only [spec_l09Ring.l0, e, Option.bind_some, c, if_true, e3, e1]
        exact Ev.bind (spec_TakeRing_ev l a b (by have := r.n8; omega) r.wf.1 r.wf.2) hE
      | false =>
        obtain ⟨m, j4, g4, e4, _, hm, hj4⟩ := spec_l01Below_ev s j3 g3 3 hj3 hs
        have hm := hm (by decide)
        have e5 : wrap64 (1 + m) = 1 + m := w64 (by omega) (by omega)
        obtain ⟨t, j5, g5, ht, _, _, hj5⟩ := spec_l01Text_ev s j4 g4 (1 + m) hj4 hs (by omega)
        obtain ⟨q', r'⟩ := r.post_any t
        obtain ⟨l', a', b', j', g', q2, hE, r2⟩ := ih (x + 1) j5 g5 _ _ _ q' (by omega) (by omega) (by omega) hj5 r'
        refine ⟨l', a', b', j', g', q2, ev_succ ?_, r2⟩
        simp only [spec_l09Ring.l0, e, Option.bind_some, c, if_true, e3, e1, Bool.false_eq_true, if_false, e4, e5]
        refine Ev.bind ht ?_
        exact Ev.bind (spec_PostRing_ev l a b t (by have := r.n8; omega) r.wf.1 r.wf.2) hE
    · refine ⟨l, a, b, j2, g2, q, ev_succ ?_, r⟩
      simp only [spec_l09Ring.l0, e, Option.bind_some, c, if_false]
      exact Ev.now _
theorem spec_DrawRing_ev (s : List Int) (hs : s.length ≤ 140737488355328) : ∃ l a b q, Ev (fun k => spec_DrawRing.f k s) (l, a, b) ∧ IsRing l a b q := by
  obtain ⟨g, hg⟩ := spec_l01New_ev s hs
  obtain ⟨y, j2, g2, e, _, hy, hj2⟩ := spec_l01Below_ev s 0 g 8 (by omega) hs
  have hy := hy (by decide)
  have e1 : wrap64 (1 + y) = 1 + y := w64 (by omega) (by omega)
  have hn := spec_RingNew_ev (1 + y)
  rw [pRingNew, if_pos (by omega)] at hn
  have r0 := IsRing.fresh (1 + y).toNat (by omega)
  obtain ⟨l', a', b', j', g', q2, hE, r2⟩ := l09Ring_l0 s hs 20 0 j2 g2 _ 0 0 [] (by omega) (by omega) (by omega) hj2 r0
  refine ⟨l', a', b', q2, ?_, r2⟩
  simp only [spec_DrawRing.f, spec_l09Ring.f]
  refine Ev.bind hg ?_
  have h2 : Ev (fun k => (spec_l01Below.f s 0 g 8).bind fun bt178 => ((spec_RingNew.f (wrap64 (1 + bt178.1))).bind fun bt181 => (spec_l09Ring.l0 k 0 s bt178.2.1 bt178.2.2 bt181.1 bt181.2.1 bt181.2.2.1))) (l', a', b', j', g') := by
    simp only [e, Option.bind_some, e1]
    exact Ev.bind hn hE
  exact Ev.bind h2 (Ev.now _)
def rText (i : Int) : ByteArray := (⟨#[116, 101, 120, 116]⟩ : ByteArray) ++ (⟨(Lib.itoa i).toArray⟩ : ByteArray)
theorem rText_size {i : Int} (h : 0 ≤ i ∧ i ≤ 8) : (rText i).size = 5 ∧ (⟨(Lib.itoa i).toArray⟩ : ByteArray).size = 1 := by
  have : i = 0 ∨ i = 1 ∨ i = 2 ∨ i = 3 ∨ i = 4 ∨ i = 5 ∨ i = 6 ∨ i = 7 ∨ i = 8 := by omega
  rcases this with rfl | rfl | rfl | rfl | rfl | rfl | rfl | rfl | rfl <;> exact ⟨by decide +kernel, by decide +kernel⟩
/-- Taking: what is held comes in its order. -/
theorem rings_l1 (n : Nat) (h : Int) (hh : 0 ≤ h ∧ h ≤ n) (hn : n ≤ 8) : ∀ (q : List ByteArray) (i : Int) (l : List (S138)) (a b : Int), l.length = n → 0 ≤ i → i + q.length = n → IsRing l a b q →
    (∀ j : Nat, j < q.length → h ≤ i + j → q.getD j ⟨#[]⟩ = rText (i + j - h)) → Ev (fun k => laws_FnRings.l1 k (n : Int) h i l a b) true := by
  intro q
  induction q with
  | nil =>
    intro i l a b hl h0 hi r hq
    apply ev_succ
    have c : ¬ i < (n : Int) := by simp at hi; omega
    simp only [laws_FnRings.l1, c, if_false]
    refine Ev.bind (impl_TakeRing_ev l a b (by have := r.n8; omega) r.wf.1 r.wf.2) ?_
    rw [r.take_empty]
    simp only [Bool.false_eq_true, if_false]
    refine Ev.bind (impl_RingOk_ev l a b (by have := r.n8; omega) r.wf.1 r.wf.2) ?_
    rw [r.ok]
    simp only [if_true]
    refine Ev.bind (heldBy_ev r) ?_
    apply ev_some
    rfl
  | cons x q ih =>
    intro i l a b hl h0 hi r hq
    apply ev_succ
    have hlen : (x :: q).length = q.length + 1 := rfl
    have c : i < (n : Int) := by omega
    have e1 : wrap64 ((n : Int) - i) = n - i := w64 (by omega) (by omega)
    have e2 : wrap64 ((n : Int) - i - 1) = n - i - 1 := w64 (by omega) (by omega)
    have e3 : wrap64 (i + 1) = i + 1 := w64 (by omega) (by omega)
    have e4 : wrap64 (i - h) = i - h := w64 (by omega) (by omega)
    have r2 := r.take
    have hll : (l.set b.toNat (⟨0, ⟨#[]⟩⟩ : S138)).length = n := by rw [List.length_set]; exact hl
    have next := ih (i + 1) _ _ _ hll (by omega) (by omega) r2 (fun j hj hhj => by
      have := hq (j + 1) (by omega) (by omega)
      rw [List.getD_cons_succ] at this
      rw [this]
      congr 1
      omega)
    have hc : (q.length : Int) = n - i - 1 := by omega
    have fin : Ev (fun k => (impl_HeldBy.f k (l.set b.toNat (⟨0, ⟨#[]⟩⟩ : S138)) a ((b + 1) % l.length)).bind fun t313 => (if t313 = (n : Int) - i - 1 then (laws_FnRings.l1 k (n : Int) h (i + 1) (l.set b.toNat (⟨0, ⟨#[]⟩⟩ : S138)) a ((b + 1) % l.length)) else (some false))) true := by
      refine Ev.bind (heldBy_ev r2) ?_
      simp only [hc, if_true]
      exact next
    simp only [laws_FnRings.l1, c, if_true, e1, e2, e3, e4]
    refine Ev.bind (impl_TakeRing_ev l a b (by have := r.n8; omega) r.wf.1 r.wf.2) ?_
    rw [r.taken]
    simp only [if_true]
    by_cases ch : i ≥ h
    · have hx := hq 0 (by omega) (by omega)
      rw [List.getD_cons_zero] at hx
      have hx : x = rText (i - h) := by rw [hx]; congr 1; omega
      have hz := rText_size (i := i - h) (by omega)
      simp only [ch, if_true]
      refine Ev.bind (spec_Decimal_ev (i - h) (by omega) (by omega)) ?_
      have c4 : 4 + (⟨(Lib.itoa (i - h)).toArray⟩ : ByteArray).size ≤ 9223372036854775807 := by omega
      have c5 : x.toList = ((⟨#[116, 101, 120, 116]⟩ : ByteArray) ++ (⟨(Lib.itoa (i - h)).toArray⟩ : ByteArray)).toList := by rw [hx]; rfl
      simp only [c4, c5, if_true]
      exact fin
    · simp only [ch, if_false]
      exact fin
/-- Posting: until the ring is full. -/
theorem rings_l0 (n : Nat) (q0 : List ByteArray) (hn1 : 1 ≤ n) (hn : n ≤ 8) (hq0 : q0.length ≤ n) : ∀ (d : Nat) (i p : Int) (q : List ByteArray) (l : List (S138)) (a b : Int), l.length = n → 0 ≤ i → i + d = n + 1 → p = (if i ≤ n - q0.length then i else n - q0.length) → (q.length : Int) = q0.length + p → IsRing l a b q →
    (∀ j : Nat, j < q.length → (q0.length : Int) ≤ j → q.getD j ⟨#[]⟩ = rText (j - q0.length)) → Ev (fun k => laws_FnRings.l0 k (n : Int) (q0.length : Int) p i l a b) true := by
  intro d
  induction d with
  | zero =>
    intro i p q l a b hl h0 hi hp hql r hq
    apply ev_succ
    have hp' : p = n - q0.length := by rw [hp, if_neg (by omega)]
    have e1 : wrap64 ((n : Int) + 1) = n + 1 := w64 (by omega) (by omega)
    have e2 : wrap64 ((n : Int) - q0.length) = n - q0.length := w64 (by omega) (by omega)
    have c : ¬ i < (n : Int) + 1 := by omega
    have hc : (q.length : Int) = n := by omega
    simp only [laws_FnRings.l0, e1, c, if_false]
    refine Ev.bind (heldBy_ev r) ?_
    simp only [hc, if_true, e2, hp', bne_self_eq_false]
    apply ev_succ
    simp only [laws_FnRings.j2, Bool.false_eq_true, if_false]
    exact rings_l1 n q0.length (by omega) hn q 0 l a b hl (by omega) (by omega) r (fun j hj hhj => by rw [hq j hj (by omega)]; congr 1; omega)
  | succ d ih =>
    intro i p q l a b hl h0 hi hp hql r hq
    apply ev_succ
    have e1 : wrap64 ((n : Int) + 1) = n + 1 := w64 (by omega) (by omega)
    have e3 : wrap64 (i + 1) = i + 1 := w64 (by omega) (by omega)
    have hpr : 0 ≤ p ∧ p ≤ 8 := by rw [hp]; split <;> omega
    have e4 : wrap64 ((q0.length : Int) + p) = q0.length + p := w64 (by omega) (by omega)
    have e5 : wrap64 (p + 1) = p + 1 := w64 (by omega) (by omega)
    have c : i < (n : Int) + 1 := by omega
    have hz := rText_size (i := i) (by omega)
    have c4 : 4 + (⟨(Lib.itoa i).toArray⟩ : ByteArray).size ≤ 9223372036854775807 := by omega
    simp only [laws_FnRings.l0, e1, c, if_true, e4]
    refine Ev.bind (spec_Decimal_ev i (by omega) (by omega)) ?_
    simp only [c4, if_true]
    refine Ev.bind (impl_PostRing_ev l a b (rText i) (by have := r.n8; omega) r.wf.1 r.wf.2) ?_
    by_cases cf : q.length < l.length
    · rw [r.posted (rText i) (by omega) cf]
      have hpi : p = i := by rw [hp, if_pos]; split at hp <;> omega
      have c6 : (q0.length : Int) + p < n := by omega
      have r2 := r.post (rText i) (by omega) cf
      simp only [c6, decide_true, bne_self_eq_false, Bool.false_eq_true, if_false]
      refine Ev.bind (impl_RingOk_ev _ _ _ (by have := r2.n8; omega) r2.wf.1 r2.wf.2) ?_
      rw [r2.ok]
      simp only [Bool.not_true]
      apply ev_succ
      simp only [laws_FnRings.j1, Bool.false_eq_true, if_false, if_true, e3, e5]
      refine ih (i + 1) (p + 1) (q ++ [rText i]) _ _ _ (by rw [List.length_set]; exact hl) (by omega) (by omega) (by rw [if_pos (by omega)]; omega) (by simp; omega) r2 (fun j hj hhj => ?_)
      by_cases cj : j < q.length
      · rw [← hq j cj hhj, List.getD_eq_getElem?_getD, List.getD_eq_getElem?_getD, List.getElem?_append_left cj]
      · have hjq : j = q.length := by simp at hj; omega
        rw [hjq, List.getD_eq_getElem?_getD, List.getElem?_append_right (by omega)]
        simp
        congr 1
        omega
    · have hfull : q.length = l.length := by have := r.ql; omega
      rw [r.post_full (rText i) hfull]
      have c6 : ¬ (q0.length : Int) + p < n := by omega
      simp only [c6, decide_false, bne_self_eq_false, Bool.false_eq_true, if_false]
      refine Ev.bind (impl_RingOk_ev l a b (by have := r.n8; omega) r.wf.1 r.wf.2) ?_
      rw [r.ok]
      simp only [Bool.not_true]
      apply ev_succ
      simp only [laws_FnRings.j1, Bool.false_eq_true, if_false, e3]
      refine ih (i + 1) p q l a b hl (by omega) (by omega) ?_ hql r hq
      have hp' : p = n - q0.length := by omega
      rw [hp'] at hp ⊢
      split at hp <;> split <;> omega
theorem FnRings : laws_FnRings.Pure := by
  intro l0 h1 h2 h3
  apply ev_rounds
  simp only [laws_FnRings.f, laws_big.f, Option.bind_some]
  by_cases c : (l0.length : Int) > 1048576
  · simp only [c, decide_true, if_true]; exact Ev.now _
  · simp only [c, decide_false, Bool.false_eq_true, if_false]
    obtain ⟨l, a, b, q, hE, r⟩ := spec_DrawRing_ev l0 (by omega)
    refine Ev.bind hE ?_
    refine Ev.bind (heldBy_ev r) ?_
    exact rings_l0 l.length q r.n1 r.n8 r.ql (l.length + 1) 0 0 q l a b rfl (by omega) (by omega) (by rw [if_pos (by have := r.ql; omega)]) (by omega) r (fun j hj hhj => by omega)

end Go.Proofs.Ytaainenplcokaaa.Pure
