/- LoseDisk of the program and of the reference answer the same for every disk and list of lengths; what was given stays as it is, and the answer shares nothing with it. -/
import Derived.Test.YtaainenplcokaaaOpenFnExactLoseDisk
import Derived.Test.YtaainenplcokaaaBaseL
namespace Go.Proofs.Ytaainenplcokaaa.Pure
open Go.RowKit Go.Proofs.Ytaainenplcokaaa.QFnExactLoseDisk Go.Proofs.YtaainenplcokaaaW.PrintWords Go.Proofs.YtaainenplcokaaaW.PrintLast Go.Proofs.YtaainenplcokaaaW.PrintMore Go.Proofs.Ytaainenplcokaaa.Base
set_option linter.unusedVariables false
set_option linter.unusedSimpArgs false

theorem laws_szFile_ev (a0 : ByteArray) (a1 : ByteArray) (a2 : Int) (left : Int) (h0 : 0 ≤ left) (h1 : left ≤ 1048576) (g0 : a0.size ≤ 9223372036854775807) (g1 : a1.size ≤ 9223372036854775807) : ∃ r : Int, Ev (fun _ => laws_szFile.f a0 a1 a2 left) r ∧ (r < 0 ∨ (0 ≤ r ∧ r = left - (a0.size : Int) - (a1.size : Int))) := by
  have e1 : wrap64 (left - (a0.size : Int)) = left - (a0.size : Int) := w64 (by omega) (by omega)
  by_cases c1 : left - (a0.size : Int) < 0
  · refine ⟨-1, ev_const ?_, Or.inl (by decide)⟩
    simp only [laws_szFile.f, e1, c1, if_true]
  · skip
    have e2 : wrap64 (left - (a0.size : Int) - (a1.size : Int)) = left - (a0.size : Int) - (a1.size : Int) := w64 (by omega) (by omega)
    by_cases c2 : left - (a0.size : Int) - (a1.size : Int) < 0
    · refine ⟨-1, ev_const ?_, Or.inl (by decide)⟩
      simp only [laws_szFile.f, e1, e2, c1, c2, if_true, if_false]
    · refine ⟨left - (a0.size : Int) - (a1.size : Int), ev_const ?_, Or.inr ⟨by omega, rfl⟩⟩
      simp only [laws_szFile.f, e1, e2, c1, c2, if_false]
theorem laws_szFileS_l0 (l : List (S179)) (hl : l.length ≤ 1048576) (hg : ∀ x : S179, x ∈ l → x.f0.size ≤ 9223372036854775807 ∧ x.f1.size ≤ 9223372036854775807) : ∀ (d : Nat) (i left : Int), 0 ≤ i → i + d = l.length → 0 ≤ left → left ≤ 1048576 →
    ∃ r : Int, Ev (fun k => laws_szFileS.l0 k l left i) r ∧ (r < 0 ∨ (0 ≤ r ∧ r ≤ left ∧ ∀ x : S179, x ∈ l.drop i.toNat → (x.f0.size : Int) ≤ left ∧ (x.f1.size : Int) ≤ left)) := by
  intro d
  induction d with
  | zero =>
    intro i left h0 h hl0 hl1
    refine ⟨left, ev_succ ?_, Or.inr ⟨hl0, Int.le_refl _, fun x hx => ?_⟩⟩
    · have c : ¬ i < (l.length : Int) := by omega
      simp only [laws_szFileS.l0, c, if_false]
      exact Ev.now _
    · rw [List.drop_of_length_le (by omega)] at hx
      simp at hx
  | succ d ih =>
    intro i left h0 h hl0 hl1
    have c : i < (l.length : Int) := by omega
    have hd : l.drop i.toNat = rd_T179 l i :: l.drop (i + 1).toNat := drop_get l i h0 c z179
    have hm : rd_T179 l i ∈ l := List.mem_of_mem_drop (i := i.toNat) (by rw [hd]; exact List.mem_cons_self)
    have hq := hg _ hm
    obtain ⟨r, hr, hrr⟩ := laws_szFile_ev (rd_T179 l i).f0 (rd_T179 l i).f1 (rd_T179 l i).f2 left hl0 hl1 hq.1 hq.2
    have e : wrap64 (i + 1) = i + 1 := w64 (by omega) (by omega)
    by_cases hn : r < 0
    · refine ⟨-1, ev_succ ?_, Or.inl (by decide)⟩
      simp only [laws_szFileS.l0, c, h0, if_true]
      refine Ev.bind hr ?_
      simp only [hn, if_true]
      exact Ev.now _
    · have hrr' := hrr.resolve_left hn
      obtain ⟨q, hq1, hq2⟩ := ih (i + 1) r (by omega) (by omega) hrr'.1 (by omega)
      refine ⟨q, ev_succ ?_, ?_⟩
      · simp only [laws_szFileS.l0, c, h0, if_true, e]
        refine Ev.bind hr ?_
        simp only [hn, if_false]
        exact hq1
      · rcases hq2 with hq2 | ⟨hq2, hq3, hq4⟩
        · exact Or.inl hq2
        · refine Or.inr ⟨hq2, by omega, fun x hx => ?_⟩
          rw [hd] at hx
          rcases List.mem_cons.1 hx with rfl | hx
          · omega
          · have := hq4 x hx
            omega
theorem laws_szFileS_ev (l : List (S179)) (left : Int) (h0 : 0 ≤ left) (h1 : left ≤ 1048576) (hl : l.length ≤ 9223372036854775807) (hg : ∀ x : S179, x ∈ l → x.f0.size ≤ 9223372036854775807 ∧ x.f1.size ≤ 9223372036854775807) :
    ∃ r : Int, Ev (fun k => laws_szFileS.f k l left) r ∧ (r < 0 ∨ (0 ≤ r ∧ r ≤ left ∧ (l.length : Int) ≤ left ∧ ∀ x : S179, x ∈ l → (x.f0.size : Int) ≤ left ∧ (x.f1.size : Int) ≤ left)) := by
  have e : wrap64 (left - (l.length : Int)) = left - (l.length : Int) := w64 (by omega) (by omega)
  by_cases c : left - (l.length : Int) < 0
  · refine ⟨-1, ?_, Or.inl (by decide)⟩
    simp only [laws_szFileS.f, e, c, if_true]
    exact Ev.now _
  · obtain ⟨r, hr, hrr⟩ := laws_szFileS_l0 l (by omega) hg l.length 0 (left - l.length) (by omega) (by omega) (by omega) (by omega)
    refine ⟨r, ?_, ?_⟩
    · simp only [laws_szFileS.f, e, c, if_false]
      exact hr
    · rcases hrr with hrr | ⟨h2, h3, h4⟩
      · exact Or.inl hrr
      · refine Or.inr ⟨h2, by omega, by omega, fun x hx => ?_⟩
        have := h4 x (by simpa using hx)
        omega

def cvFile (x : S179) : S49 := ⟨x.f0, x.f1, x.f2⟩
theorem laws_toFile_ev (a0 : ByteArray) (a1 : ByteArray) (a2 : Int) : Ev (fun _ => laws_toFile.f a0 a1 a2) (a0, a1, a2) := ev_const rfl
theorem laws_toFileS_ev (l : List (S179)) (hl : l.length ≤ 1048576) : Ev (fun k => laws_toFileS.f k l) (l.map cvFile) := by
  have c1 : 0 ≤ (l.length : Int) := by omega
  have c2 : ∀ n : Nat, 1048576 ≤ n → ((l.length : Int)).toNat ≤ n := fun n h => by omega
  simp only [laws_toFileS.f, c1, if_true]
  rw [ev_if (c2 _ (by decide))]
  have key := loop_up (fun k (b : List (S49)) i => laws_toFileS.l0 k l b i) (l.length : Int) (l.map cvFile) (fun b i => b.length = l.length ∧ b.take i.toNat = (l.map cvFile).take i.toNat)
    (fun b hs => by
      obtain ⟨hb, ht⟩ := hs
      have c : ¬ (l.length : Int) < (l.length : Int) := by omega
      simp only [laws_toFileS.l0, c, if_false]
      apply ev_some
      rw [List.take_of_length_le (by omega), List.take_of_length_le (by rw [List.length_map]; omega)] at ht
      exact ht)
    (fun b i h0 h1 hs ih => by
      obtain ⟨hb, ht⟩ := hs
      have c : i < (b.length : Int) := by omega
      have e2 : wrap64 (i + 1) = i + 1 := w64 (by omega) (by omega)
      simp only [laws_toFileS.l0, h1, h0, if_true, e2]
      refine Ev.bind (laws_toFile_ev _ _ _) ?_
      simp only [c, if_true]
      refine ih _ ⟨by rw [List.length_set]; exact hb, ?_⟩
      rw [show (i + 1).toNat = i.toNat + 1 by omega]
      refine take_set (l.map cvFile) b i.toNat _ (by rw [List.length_map]; exact hb) (by rw [List.length_map]; omega) ht ?_
      rw [List.getElem?_map, getElem_rd l i h0 h1 z179]
      rfl)
  exact key l.length 0 _ (by omega) (by omega) ⟨by simp, by simp⟩

theorem laws_eqFile_ev (a0 : ByteArray) (a1 : ByteArray) (a2 : Int) : Ev (fun _ => laws_eqFile.f a0 a1 a2 a0 a1 a2) true := by
  apply ev_const
  simp [laws_eqFile.f]
theorem laws_eqFileS_ev (l : List (S49)) (hl : l.length ≤ 140737488355328) : Ev (fun k => laws_eqFileS.f k l l) true := by
  simp only [laws_eqFileS.f, if_true]
  have key := loop_up (fun k (_ : Unit) i => laws_eqFileS.l0 k l l i) (l.length : Int) true (fun _ _ => True)
    (fun _ _ => by
      have c : ¬ (l.length : Int) < (l.length : Int) := by omega
      simp only [laws_eqFileS.l0, c, if_false]
      exact Ev.now _)
    (fun _ i h0 h1 _ ih => by
      have e2 : wrap64 (i + 1) = i + 1 := w64 (by omega) (by omega)
      simp only [laws_eqFileS.l0, h1, h0, if_true, e2]
      refine Ev.bind (laws_eqFile_ev _ _ _) ?_
      simp only [if_true]
      exact ih () trivial)
  exact key l.length 0 () (by omega) (by omega) trivial

theorem laws_szDisk_ev (l : List (S179)) (left : Int) (h0 : 0 ≤ left) (h1 : left ≤ 1048576) (hl : l.length ≤ 9223372036854775807) (hg : ∀ x : S179, x ∈ l → x.f0.size ≤ 9223372036854775807 ∧ x.f1.size ≤ 9223372036854775807) :
    ∃ r : Int, Ev (fun k => laws_szDisk.f k l left) r ∧ (r < 0 ∨ (0 ≤ r ∧ r ≤ left ∧ (l.length : Int) ≤ left ∧ ∀ x : S179, x ∈ l → (x.f0.size : Int) ≤ left ∧ (x.f1.size : Int) ≤ left)) := by
  obtain ⟨r, hr, hrr⟩ := laws_szFileS_ev l left h0 h1 hl hg
  refine ⟨if r < 0 then -1 else r, ?_, ?_⟩
  · simp only [laws_szDisk.f]
    refine Ev.bind hr ?_
    by_cases c : r < 0 <;> simp [c]
  · rcases hrr with h | h
    · rw [if_pos h]; exact Or.inl (by decide)
    · rw [if_neg (by omega)]; exact Or.inr h
theorem laws_toDisk_ev (l : List (S179)) (hl : l.length ≤ 1048576) : Ev (fun k => laws_toDisk.f k l) (l.map cvFile) := by
  simp only [laws_toDisk.f]
  exact Ev.bind (laws_toFileS_ev l hl) (Ev.now _)
theorem laws_eqDisk_ev (l : List (S49)) (hl : l.length ≤ 140737488355328) : Ev (fun k => laws_eqDisk.f k l l) true := by
  simp only [laws_eqDisk.f]
  refine Ev.bind (laws_eqFileS_ev l hl) ?_
  simp

theorem impl_within_ev (a b c : Int) : Ev (fun _ => impl_within.f a b c) (decide (b ≤ a ∧ a ≤ c)) := by
  apply ev_const
  unfold impl_within.f
  by_cases h : a ≥ b
  · rw [if_pos h]; simp [show b ≤ a from h]
  · rw [if_neg h]; simp [show ¬ b ≤ a from h]

def pFile (f : S49) : Bool := decide (1 ≤ f.f0.size ∧ f.f0.size ≤ 8) && decide (f.f1.size ≤ 20000) && decide (0 ≤ f.f2 ∧ f.f2 ≤ f.f1.size)
def pDiskL : Option ByteArray → List (S49) → Bool
  | _, [] => true
  | none, f :: l => pFile f && pDiskL (some f.f0) l
  | some q, f :: l => pFile f && Op.bytesLess q.toList f.f0.toList && pDiskL (some f.f0) l
def prevN (l : List (S49)) (i : Int) : Option ByteArray := if i = 0 then none else some (rd_T49 l (i - 1)).f0
def pDiskOk (l : List (S49)) : Bool := decide (l.length ≤ 30) && pDiskL none l
theorem drop_file (l : List (S49)) (i : Int) (h0 : 0 ≤ i) (h1 : i < l.length) : l.drop i.toNat = rd_T49 l i :: l.drop (i + 1).toNat := drop_get l i h0 h1 z49
theorem prevN_next (l : List (S49)) (i : Int) (h : 0 ≤ i) : prevN l (i + 1) = some (rd_T49 l i).f0 := by
  rw [prevN, if_neg (by omega), show i + 1 - 1 = i by omega]
theorem pDiskL_bad {o : Option ByteArray} {f : S49} {l : List (S49)} (h : pFile f = false) : pDiskL o (f :: l) = false := by
  cases o <;> simp [pDiskL, h]

theorem impl_DiskOk_l0 (l : List (S49)) (hl : l.length ≤ 1048576) : ∀ (d : Nat) (i : Int), 0 ≤ i → i + d = l.length → Ev (fun k => impl_DiskOk.l0 k l (l.length : Int) i l) (pDiskL (prevN l i) (l.drop i.toNat) && decide (l.length ≤ 30)) := by
  intro d
  induction d with
  | zero =>
    intro i h0 h
    apply ev_succ
    have c : ¬ i < (l.length : Int) := by omega
    simp only [impl_DiskOk.l0, c, if_false]
    rw [List.drop_of_length_le (by omega)]
    apply ev_some
    have e : decide ((l.length : Int) ≤ 30) = decide (l.length ≤ 30) := by rw [decide_eq_decide]; omega
    cases prevN l i <;> simp only [pDiskL, Bool.true_and, e]
  | succ d ih =>
    intro i h0 h
    apply ev_succ
    have c : i < (l.length : Int) := by omega
    have e1 : wrap64 (i + 1) = i + 1 := w64 (by omega) (by omega)
    have e2 : wrap64 (i - 1) = i - 1 := w64 (by omega) (by omega)
    have hh := ih (i + 1) (by omega) (by omega)
    rw [prevN_next l i h0] at hh
    rw [drop_file l i h0 c]
    have k3 : i > 0 → 0 ≤ i - 1 ∧ i - 1 < (l.length : Int) := fun _ => by omega
    have hp0 : ¬ i > 0 → prevN l i = none := fun hi => by rw [prevN, if_pos (by omega)]
    have hp1 : i > 0 → prevN l i = some (rd_T49 l (i - 1)).f0 := fun hi => by rw [prevN, if_neg (by omega)]
    simp only [impl_DiskOk.l0, c, h0, if_true, e1, e2]
    generalize rd_T49 l i = f at hh ⊢
    refine Ev.bind (impl_within_ev _ _ _) ?_
    by_cases a1 : 1 ≤ f.f0.size ∧ f.f0.size ≤ 8
    · have a1' : 1 ≤ (f.f0.size : Int) ∧ (f.f0.size : Int) ≤ 8 := by omega
      by_cases a2 : (f.f1.size : Int) > 20000
      · simp only [a1', and_self, decide_true, if_true, a2]
        apply ev_some
        rw [pDiskL_bad (by simp [pFile]; omega), Bool.false_and]
      · simp only [a1', and_self, decide_true, if_true, a2, if_false]
        refine Ev.bind (impl_within_ev _ _ _) ?_
        by_cases a3 : 0 ≤ f.f2 ∧ f.f2 ≤ (f.f1.size : Int)
        · have hf : pFile f = true := by simp [pFile, a1, a3]; omega
          by_cases hi : i > 0
          · simp only [a3, and_self, decide_true, if_true, hi, (k3 hi).1, (k3 hi).2]
            rw [hp1 hi]
            by_cases hb : Op.bytesLess (rd_T49 l (i - 1)).f0.toList f.f0.toList = true
            · simp only [hb, if_true]
              simpa [pDiskL, hf, hb] using hh
            · simp only [hb, if_false]
              apply ev_some
              simp [pDiskL, hb]
          · simp only [a3, and_self, decide_true, if_true, hi, if_false]
            rw [hp0 hi]
            simpa [pDiskL, hf] using hh
        · simp only [a3, decide_false, Bool.false_eq_true, if_false]
          apply ev_some
          rw [pDiskL_bad (by simp only [pFile, a3, decide_false, Bool.and_false]), Bool.false_and]
    · have a1' : ¬ (1 ≤ (f.f0.size : Int) ∧ (f.f0.size : Int) ≤ 8) := by omega
      simp only [a1', decide_false, Bool.false_eq_true, if_false]
      apply ev_some
      rw [pDiskL_bad (by simp only [pFile, a1, decide_false, Bool.false_and]), Bool.false_and]
theorem impl_DiskOk_ev (l : List (S49)) (hl : l.length ≤ 1048576) : Ev (fun k => impl_DiskOk.f k l) (pDiskOk l) := by
  simp only [impl_DiskOk.f]
  rw [pDiskOk, Bool.and_comm]
  have := impl_DiskOk_l0 l hl l.length 0 (by omega) (by omega)
  simpa [prevN] using this

def pKeptL (l : List (S49)) : Bool := l.all fun f => decide (f.f2 = f.f1.size)
def pAllKept (l : List (S49)) : Bool := pKeptL l && pDiskOk l
theorem pKeptL_cons (f : S49) (l : List (S49)) : pKeptL (f :: l) = (decide (f.f2 = f.f1.size) && pKeptL l) := by simp [pKeptL]
theorem pDiskL_files : ∀ (l : List (S49)) (o : Option ByteArray), pDiskL o l = true → ∀ f ∈ l, pFile f = true := by
  intro l
  induction l with
  | nil => intro o _ f hf; simp at hf
  | cons g l ih =>
    intro o h f hf
    have hg : pFile g = true ∧ pDiskL (some g.f0) l = true := by
      cases o <;> simp only [pDiskL, Bool.and_eq_true] at h
      · exact h
      · exact ⟨h.1.1, h.2⟩
    rcases List.mem_cons.1 hf with rfl | hf
    · exact hg.1
    · exact ih _ hg.2 f hf
theorem pDiskOk_files {l : List (S49)} (h : pDiskOk l = true) : l.length ≤ 30 ∧ ∀ f ∈ l, (1 ≤ f.f0.size ∧ f.f0.size ≤ 8) ∧ f.f1.size ≤ 20000 ∧ 0 ≤ f.f2 ∧ f.f2 ≤ f.f1.size := by
  simp only [pDiskOk, Bool.and_eq_true, decide_eq_true_eq] at h
  refine ⟨h.1, fun f hf => ?_⟩
  have := pDiskL_files l none h.2 f hf
  simp only [pFile, Bool.and_eq_true, decide_eq_true_eq] at this
  exact ⟨this.1.1, this.1.2, this.2⟩

def loseN (f : S49) (left : List Int) (i : Int) : Int := if i < left.length then mx f.f2 (mn (rd left i) (f.f1.size : Int)) else f.f2
def loseF (f : S49) (n : Int) : S49 := ⟨f.f0, f.f1.extract 0 n.toNat, n⟩
def pLoseL (left : List Int) : Int → List (S49) → List (S49)
  | _, [] => []
  | i, f :: l => loseF f (loseN f left i) :: pLoseL left (i + 1) l
def pLose (l : List (S49)) (left : List Int) : List (S49) × Bool := if pDiskOk l = true then (pLoseL left 0 l, true) else ([], false)
theorem pLose_yes {l : List (S49)} {left : List Int} (h : pDiskOk l = true) : pLose l left = (pLoseL left 0 l, true) := if_pos h
theorem pLose_no {l : List (S49)} {left : List Int} (h : ¬ pDiskOk l = true) : pLose l left = ([], false) := if_neg h
theorem pLoseL_len (left : List Int) (l : List (S49)) : ∀ i, (pLoseL left i l).length = l.length := by
  induction l with
  | nil => intro i; rfl
  | cons f l ih => intro i; simp [pLoseL, ih]
theorem pLose_len (l : List (S49)) (left : List Int) : (pLose l left).1.length ≤ l.length := by
  unfold pLose
  split
  · simp only [pLoseL_len]; exact Nat.le_refl _
  · simp
theorem pLoseL_get (left : List Int) (l : List (S49)) : ∀ (j : Int) (i : Nat) (f : S49), l[i]? = some f → (pLoseL left j l)[i]? = some (loseF f (loseN f left (j + i))) := by
  induction l with
  | nil => intro j i f h; simp at h
  | cons g l ih =>
    intro j i f h
    cases i with
    | zero =>
      simp only [List.getElem?_cons_zero, Option.some.injEq] at h
      subst h
      simp [pLoseL]
    | succ i =>
      simp only [List.getElem?_cons_succ] at h
      simp only [pLoseL, List.getElem?_cons_succ]
      rw [ih (j + 1) i f h, show j + 1 + (i : Int) = j + ((i + 1 : Nat) : Int) by omega]
theorem rdf_mem (l : List (S49)) (i : Int) (h0 : 0 ≤ i) (h1 : i < l.length) : rd_T49 l i ∈ l := by
  unfold rd_T49
  rw [List.getD_eq_getElem?_getD, List.getElem?_eq_getElem (show i.toNat < l.length by omega)]
  exact List.getElem_mem _
theorem lose_in (a b c : Int) (h0 : 0 ≤ a) (h1 : a ≤ b) : 0 ≤ mx a (mn c b) ∧ mx a (mn c b) ≤ b := by
  unfold mx mn
  constructor <;> split <;> split <;> omega
theorem impl_LoseDisk_ev (l : List (S49)) (left : List Int) (hl : l.length ≤ 1048576) : Ev (fun k => impl_LoseDisk.f k l left) (pLose l left) := by
  simp only [impl_LoseDisk.f]
  refine Ev.bind (impl_DiskOk_ev l hl) ?_
  by_cases h : pDiskOk l = true
  · have hf := (pDiskOk_files h).2
    have e0 : 0 + l.length < 3518437208883 := by omega
    simp only [h, if_true, impl_copyDisk.f, Option.bind_some, List.length_nil, List.nil_append, e0]
    rw [pLose_yes h]
    have key := loop_up (fun k (s : List (S49)) i => impl_LoseDisk.l0 k left l (l.length : Int) i s) (l.length : Int) (pLoseL left 0 l, true)
      (fun s i => s.length = l.length ∧ s.take i.toNat = (pLoseL left 0 l).take i.toNat)
      (fun s hs => by
        obtain ⟨hb, ht⟩ := hs
        have c : ¬ (l.length : Int) < (l.length : Int) := by omega
        simp only [impl_LoseDisk.l0, c, if_false]
        apply ev_some
        rw [List.take_of_length_le (by omega), List.take_of_length_le (by rw [pLoseL_len]; omega)] at ht
        rw [ht])
      (fun s i h0 h1 hs ih => by
        obtain ⟨hb, ht⟩ := hs
        have c2 : i < (s.length : Int) := by omega
        have ei : wrap64 (i + 1) = i + 1 := w64 (by omega) (by omega)
        have hm := hf _ (rdf_mem l i h0 h1)
        have n0 := hm.2.2.1
        have n1 := hm.2.2.2
        have hn := ih (s.set i.toNat (loseF (rd_T49 l i) (loseN (rd_T49 l i) left i))) ⟨by simp [hb], by
          rw [show (i + 1).toNat = i.toNat + 1 by omega]
          refine take_set (pLoseL left 0 l) s i.toNat _ (by rw [pLoseL_len]; exact hb) (by rw [pLoseL_len]; omega) ht ?_
          rw [pLoseL_get left l 0 i.toNat (rd_T49 l i) (getElem_rd l i h0 h1 z49), show (0 : Int) + ((i.toNat : Nat) : Int) = i by omega]⟩
        simp only [impl_LoseDisk.l0, h1, h0, c2, if_true, ei]
        by_cases hc : i < (left.length : Int)
        · have m := lose_in _ _ (rd left i) n0 n1
          simp only [hc, if_true, m.1, m.2]
          rw [loseN, if_pos hc, loseF] at hn
          exact hn
        · simp only [hc, if_false, n0, n1, if_true]
          rw [loseN, if_neg hc, loseF] at hn
          exact hn)
    exact key l.length 0 l (by omega) (by omega) ⟨rfl, by simp⟩
  · rw [pLose_no h]
    simp only [h, if_false]
    exact Ev.now _

theorem spec_l01In_ev (a b c : Int) : Ev (fun _ => spec_l01In.f a b c) (decide (b ≤ a ∧ a ≤ c)) := by
  apply ev_const
  unfold spec_l01In.f
  by_cases h : a ≥ b
  · rw [if_pos h]; simp [show b ≤ a from h]
  · rw [if_neg h]; simp [show ¬ b ≤ a from h]

theorem spec_l03Name_ev (s : ByteArray) : Ev (fun _ => spec_l03Name.f s) (decide (1 ≤ s.size ∧ s.size ≤ 8)) := by
  simp only [spec_l03Name.f]
  refine Ev.bind (spec_l01In_ev _ _ _) ?_
  apply ev_some
  rw [decide_eq_decide]
  omega
theorem spec_DiskOk_l0 (l : List (S49)) (hl : l.length ≤ 1048576) : ∀ (d : Nat) (i : Int), 0 ≤ i → i + d = l.length → Ev (fun k => spec_DiskOk.l0 k i l) (pDiskL (prevN l i) (l.drop i.toNat)) := by
  intro d
  induction d with
  | zero =>
    intro i h0 h
    apply ev_succ
    have c : ¬ i < (l.length : Int) := by omega
    simp only [spec_DiskOk.l0, c, if_false]
    rw [List.drop_of_length_le (by omega)]
    cases prevN l i <;> exact Ev.now _
  | succ d ih =>
    intro i h0 h
    apply ev_succ
    have c : i < (l.length : Int) := by omega
    have e1 : wrap64 (i + 1) = i + 1 := w64 (by omega) (by omega)
    have e2 : wrap64 (i - 1) = i - 1 := w64 (by omega) (by omega)
    have hh := ih (i + 1) (by omega) (by omega)
    rw [prevN_next l i h0] at hh
    rw [drop_file l i h0 c]
    have k3 : i > 0 → 0 ≤ i - 1 ∧ i - 1 < (l.length : Int) := fun _ => by omega
    have hp0 : ¬ i > 0 → prevN l i = none := fun hi => by rw [prevN, if_pos (by omega)]
    have hp1 : i > 0 → prevN l i = some (rd_T49 l (i - 1)).f0 := fun hi => by rw [prevN, if_neg (by omega)]
    simp only [spec_DiskOk.l0, c, h0, if_true, e1, e2]
    generalize rd_T49 l i = f at hh ⊢
    refine Ev.bind (spec_l03Name_ev _) ?_
    by_cases a1 : 1 ≤ f.f0.size ∧ f.f0.size ≤ 8
    · by_cases a2 : (f.f1.size : Int) > 20000
      · simp only [a1, and_self, decide_true, if_true, a2]
        apply ev_some
        rw [pDiskL_bad (by simp [pFile]; omega)]
      · simp only [a1, and_self, decide_true, if_true, a2, if_false]
        refine Ev.bind (spec_l01In_ev _ _ _) ?_
        by_cases a3 : 0 ≤ f.f2 ∧ f.f2 ≤ (f.f1.size : Int)
        · have hf : pFile f = true := by simp [pFile, a1, a3]; omega
          by_cases hi : i > 0
          · simp only [a3, and_self, decide_true, if_true, hi, (k3 hi).1, (k3 hi).2]
            rw [hp1 hi]
            by_cases hb : Op.bytesLess (rd_T49 l (i - 1)).f0.toList f.f0.toList = true
            · simp only [hb, if_true]
              simpa [pDiskL, hf, hb] using hh
            · simp only [hb, if_false]
              apply ev_some
              simp [pDiskL, hb]
          · simp only [a3, and_self, decide_true, if_true, hi, if_false]
            rw [hp0 hi]
            simpa [pDiskL, hf] using hh
        · simp only [a3, decide_false, Bool.false_eq_true, if_false]
          apply ev_some
          rw [pDiskL_bad (by simp only [pFile, a3, decide_false, Bool.and_false])]
    · simp only [a1, decide_false, Bool.false_eq_true, if_false]
      apply ev_some
      rw [pDiskL_bad (by simp only [pFile, a1, decide_false, Bool.false_and])]
theorem spec_DiskOk_ev (l : List (S49)) (hl : l.length ≤ 1048576) : Ev (fun k => spec_DiskOk.f k l) (pDiskOk l) := by
  simp only [spec_DiskOk.f]
  by_cases h : (l.length : Int) > 30
  · simp only [h, if_true]
    apply ev_some
    rw [pDiskOk, decide_eq_false (by omega), Bool.false_and]
  · simp only [h, if_false]
    rw [pDiskOk, decide_eq_true (by omega), Bool.true_and]
    have := spec_DiskOk_l0 l hl l.length 0 (by omega) (by omega)
    simpa [prevN] using this

theorem spec_LoseDisk_j1 (l out : List (S49)) (left : List Int) (i n N : Int) (f : S49) (R : List (S49) × Bool) (k0 : 0 ≤ f.f2) (ks : f.f2 ≤ (f.f1.size : Int)) (ho : out.length < 3518437208883) (ei : wrap64 (i + 1) = i + 1)
    (hN : N = mx f.f2 (mn n (f.f1.size : Int))) (hnext : Ev (fun k => spec_LoseDisk.l0 k left (i + 1) l (out ++ [loseF f N])) R) :
    Ev (fun k => spec_LoseDisk.j1 k left i n l out f.f0 f.f1 f.f2) R := by
  apply ev_succ
  simp only [spec_LoseDisk.j1, ho, ei, if_true]
  rw [loseF] at hnext
  by_cases a : n > (f.f1.size : Int)
  · have b : ¬ (f.f1.size : Int) < f.f2 := by omega
    have z : (0 : Int) ≤ (f.f1.size : Int) := by omega
    have z2 : (f.f1.size : Int) ≤ (f.f1.size : Int) := Int.le_refl _
    have e : N = (f.f1.size : Int) := by rw [hN]; unfold mx mn; split <;> split <;> omega
    rw [e] at hnext
    simp only [a, b, z, z2, if_true, if_false]
    exact hnext
  · by_cases b : n < f.f2
    · have e : N = f.f2 := by rw [hN]; unfold mx mn; split <;> split <;> omega
      rw [e] at hnext
      simp only [a, b, k0, ks, if_true, if_false]
      exact hnext
    · have e : N = n := by rw [hN]; unfold mx mn; split <;> split <;> omega
      have z : 0 ≤ n := by omega
      rw [e] at hnext
      simp only [a, b, z, if_true, if_false]
      exact hnext
theorem spec_LoseDisk_l0 (l : List (S49)) (left : List Int) (hl : l.length ≤ 1048576) (hf : ∀ f ∈ l, 0 ≤ f.f2 ∧ f.f2 ≤ (f.f1.size : Int)) : ∀ (d : Nat) (i : Int) (out R : List (S49)), 0 ≤ i → i + d = l.length → (out.length : Int) ≤ i → out ++ pLoseL left i (l.drop i.toNat) = R →
    Ev (fun k => spec_LoseDisk.l0 k left i l out) (R, true) := by
  intro d
  induction d with
  | zero =>
    intro i out R h0 h ho hR
    apply ev_succ
    have c : ¬ i < (l.length : Int) := by omega
    simp only [spec_LoseDisk.l0, c, if_false]
    rw [List.drop_of_length_le (by omega), pLoseL, List.append_nil] at hR
    rw [hR]
    exact Ev.now _
  | succ d ih =>
    intro i out R h0 h ho hR
    apply ev_succ
    have c : i < (l.length : Int) := by omega
    have ei : wrap64 (i + 1) = i + 1 := w64 (by omega) (by omega)
    have hm := hf _ (rdf_mem l i h0 c)
    rw [drop_file l i h0 c, pLoseL] at hR
    have hn := ih (i + 1) (out ++ [loseF (rd_T49 l i) (loseN (rd_T49 l i) left i)]) R (by omega) (by omega) (by rw [List.length_append, List.length_singleton]; omega) (by rw [List.append_assoc]; exact hR)
    simp only [spec_LoseDisk.l0, c, h0, if_true]
    by_cases hc : i < (left.length : Int)
    · simp only [hc, if_true]
      refine spec_LoseDisk_j1 l out left i _ _ (rd_T49 l i) _ hm.1 hm.2 (by omega) ei ?_ hn
      rw [loseN, if_pos hc]
    · simp only [hc, if_false]
      refine spec_LoseDisk_j1 l out left i _ _ (rd_T49 l i) _ hm.1 hm.2 (by omega) ei ?_ hn
      rw [loseN, if_neg hc]
      obtain ⟨x, hx⟩ : ∃ x, (rd_T49 l i).f2 = x := ⟨_, rfl⟩
      obtain ⟨y, hy⟩ : ∃ y, ((rd_T49 l i).f1.size : Int) = y := ⟨_, rfl⟩
      rw [hx, hy] at hm
      rw [hx, hy]
      unfold mx mn
      split <;> split <;> omega
theorem spec_LoseDisk_ev (l : List (S49)) (left : List Int) (hl : l.length ≤ 1048576) : Ev (fun k => spec_LoseDisk.f k l left) (pLose l left) := by
  simp only [spec_LoseDisk.f]
  refine Ev.bind (spec_DiskOk_ev l hl) ?_
  by_cases h : pDiskOk l = true
  · have hf := (pDiskOk_files h).2
    simp only [h, if_true]
    rw [pLose_yes h]
    exact spec_LoseDisk_l0 l left hl (fun f hm => (hf f hm).2.2) l.length 0 [] _ (by omega) (by omega) (by simp) (by simp)
  · rw [pLose_no h]
    simp only [h, if_false]
    exact Ev.now _

theorem laws_markText_l0 (n : Nat) : ∀ s : ByteArray, s.size + n ≤ 140737488355328 → Ev (fun k => laws_markText.l0 k (n : Int) s) (decF n s) := by
  induction n using Nat.strongRecOn with
  | ind n ih =>
    intro s hs
    apply ev_succ
    by_cases hn : n = 0
    · subst hn
      have c : ¬ ((0 : Nat) : Int) > 0 := by omega
      have c2 : 1 + s.size ≤ 9223372036854775807 := by omega
      simp only [laws_markText.l0, c, c2, if_true, if_false]
      rw [decF_zero]
      exact Ev.now _
    · have c : (n : Int) > 0 := by omega
      have e1 : wrap64 (48 + Int.tmod (n : Int) 10) % 256 = ((48 + n % 10 : Nat) : Int) := by
        rw [Int.tmod_eq_emod_of_nonneg (by omega), w64 (by omega) (by omega)]; omega
      have e2 : wrap64 (Int.tdiv (n : Int) 10) = ((n / 10 : Nat) : Int) := by
        rw [Int.tdiv_eq_ediv_of_nonneg (by omega), w64 (by omega) (by omega)]; omega
      have c2 : (strOfNums [((48 + n % 10 : Nat) : Int)]).size + s.size ≤ 9223372036854775807 := by rw [str_len]; simp; omega
      simp only [laws_markText.l0, c, if_true, e1, e2, Option.bind_some, c2]
      rw [decF_more hn]
      refine ih (n / 10) (by omega) _ ?_
      rw [size_app, str_len]; simp; omega
theorem laws_markText_ev (k : Int) (h : k ≤ 140737488355328) : Ev (fun n => laws_markText.f n k) (markT k) := by
  simp only [laws_markText.f]
  by_cases c : k ≤ 0
  · simp only [c, if_true]
    rw [markT, if_pos c]
    exact Ev.now _
  · simp only [c, if_false]
    rw [markT, if_neg c]
    obtain ⟨n, rfl⟩ := Int.eq_ofNat_of_zero_le (show 0 ≤ k by omega)
    have := laws_markText_l0 n ⟨#[]⟩ (by simp [ByteArray.size]; omega)
    simpa using this

def mkFile (a : Int) : Nat → List (S49)
  | 0 => []
  | n + 1 => ⟨markT (a), markT (a + 1), a + 1 + 1⟩ :: mkFile (a + 1 + 1 + 1) n
theorem mkFile_len (a : Int) (n : Nat) : (mkFile a n).length = n := by
  induction n generalizing a with
  | zero => rfl
  | succ n ih => simp [mkFile, ih]
theorem mkFile_get (a : Int) (n i : Nat) (h : i < n) : (mkFile a n)[i]? = some ⟨markT ((a + 3 * (i : Int))), markT ((a + 3 * (i : Int)) + 1), (a + 3 * (i : Int)) + 1 + 1⟩ := by
  induction n generalizing a i with
  | zero => omega
  | succ n ih =>
    cases i with
    | zero => simp [mkFile]
    | succ i =>
      simp only [mkFile, List.getElem?_cons_succ]
      rw [ih _ _ (by omega)]
      rw [show (a + 1 + 1 + 1) + 3 * (i : Int) = a + 3 * ((i + 1 : Nat) : Int) by omega]
theorem laws_markFileS_ev (l : List (S49)) (a : Int) (ha : 0 ≤ a) (hb : a ≤ 70368744177664) (hl : l.length ≤ 1099511627776) : Ev (fun k => laws_markFileS.f k l a) (a + 3 * l.length, mkFile a l.length) := by
  simp only [laws_markFileS.f]
  have key := loop_up (fun k (s : List (S49) × Int) i => laws_markFileS.l0 k s.1 s.2 i) (l.length : Int) (a + 3 * l.length, mkFile a l.length)
    (fun s i => s.1.length = l.length ∧ s.2 = a + 3 * i ∧ s.1.take i.toNat = (mkFile a l.length).take i.toNat)
    (fun s hs => by
      obtain ⟨b, x⟩ := s
      obtain ⟨hb, rfl, ht⟩ := hs
      simp only at hb ht ⊢
      have c : ¬ (l.length : Int) < (b.length : Int) := by omega
      simp only [laws_markFileS.l0, c, if_false]
      apply ev_some
      rw [List.take_of_length_le (by omega), List.take_of_length_le (by rw [mkFile_len]; omega)] at ht
      rw [ht])
    (fun s i h0 h1 hs ih => by
      obtain ⟨b, x⟩ := s
      obtain ⟨hb, rfl, ht⟩ := hs
      simp only at hb ht ⊢
      have h1' : i < (b.length : Int) := by omega
      have hr : ∀ v, rd_T49 (b.set i.toNat v) i = v := fun v => get_set b i v h0 h1' z49
      have hfin := ih (b.set i.toNat ⟨markT ((a + 3 * i)), markT ((a + 3 * i) + 1), (a + 3 * i) + 1 + 1⟩, (a + 3 * i) + 1 + 1 + 1) ⟨by simp [hb], by simp only; omega, by
        simp only
        rw [show (i + 1).toNat = i.toNat + 1 by omega]
        refine take_set (mkFile a l.length) b i.toNat _ (by rw [mkFile_len]; exact hb) (by rw [mkFile_len]; omega) ht ?_
        rw [mkFile_get _ _ _ (by omega), show ((i.toNat : Nat) : Int) = i by omega]⟩
      have e1 : wrap64 ((a + 3 * i) + 1) = (a + 3 * i) + 1 := w64 (by omega) (by omega)
      have e2 : wrap64 ((a + 3 * i) + 1 + 1) = (a + 3 * i) + 1 + 1 := w64 (by omega) (by omega)
      have e3 : wrap64 ((a + 3 * i) + 1 + 1 + 1) = (a + 3 * i) + 1 + 1 + 1 := w64 (by omega) (by omega)
      have ei : wrap64 (i + 1) = i + 1 := w64 (by omega) (by omega)
      simp only [laws_markFileS.l0, h1', h0, if_true, e1, e2, e3, ei, Option.bind_some, hr, List.set_set]
      refine Ev.bind (laws_markText_ev _ (by omega)) ?_
      try simp only [h1', h0, if_true, Option.bind_some, hr, List.set_set]
      refine Ev.bind (laws_markText_ev _ (by omega)) ?_
      try simp only [h1', h0, if_true, Option.bind_some, hr, List.set_set]
      exact hfin)
  exact key l.length 0 (l, a) (by omega) (by omega) ⟨rfl, by simp, by simp⟩
theorem laws_heldFileS_ev (a : Int) (n : Nat) (ha : 0 ≤ a) (hb : a ≤ 70368744177664) (hn : n ≤ 1099511627776) : Ev (fun k => laws_heldFileS.f k (mkFile a n) a) (a + 3 * n) := by
  simp only [laws_heldFileS.f]
  have key := loop_up (fun k (s : Int) i => laws_heldFileS.l0 k (mkFile a n) s i) (n : Int) (a + 3 * n) (fun s i => s = a + 3 * i)
    (fun s hs => by
      subst hs
      have c : ¬ (n : Int) < ((mkFile a n).length : Int) := by rw [mkFile_len]; omega
      simp only [laws_heldFileS.l0, c, if_false]
      exact Ev.now _)
    (fun s i h0 h1 hs ih => by
      subst hs
      have hfin := ih ((a + 3 * i) + 1 + 1 + 1) (by omega)
      have c : i < ((mkFile a n).length : Int) := by rw [mkFile_len]; omega
      have he : rd_T49 (mkFile a n) i = ⟨markT ((a + 3 * i)), markT ((a + 3 * i) + 1), (a + 3 * i) + 1 + 1⟩ := by
        have hg := mkFile_get a n i.toNat (by omega)
        rw [show ((i.toNat : Nat) : Int) = i by omega] at hg
        unfold rd_T49
        rw [List.getD_eq_getElem?_getD, hg]
        rfl
      have e1 : wrap64 ((a + 3 * i) + 1) = (a + 3 * i) + 1 := w64 (by omega) (by omega)
      have e2 : wrap64 ((a + 3 * i) + 1 + 1) = (a + 3 * i) + 1 + 1 := w64 (by omega) (by omega)
      have e3 : wrap64 ((a + 3 * i) + 1 + 1 + 1) = (a + 3 * i) + 1 + 1 + 1 := w64 (by omega) (by omega)
      have ei : wrap64 (i + 1) = i + 1 := w64 (by omega) (by omega)
      simp only [laws_heldFileS.l0, c, h0, if_true, e1, e2, e3, ei, he]
      refine Ev.bind (laws_markText_ev _ (by omega)) ?_
      simp only [if_true]
      refine Ev.bind (laws_markText_ev _ (by omega)) ?_
      simp only [if_true]
      exact hfin)
  exact key n 0 a (by omega) (by omega) (by omega)

theorem laws_markDisk_ev (l : List (S49)) (c : Int) (hc : 0 ≤ c) (hc2 : c ≤ 70368744177664) (hl : l.length ≤ 1099511627776) : Ev (fun k => laws_markDisk.f k l c) (c + 3 * l.length, mkFile c l.length) := by
  simp only [laws_markDisk.f]
  exact Ev.bind (laws_markFileS_ev l c hc hc2 hl) (Ev.now _)
theorem laws_heldDisk_ev (c : Int) (n : Nat) (hc : 0 ≤ c) (hc2 : c ≤ 70368744177664) (hn : n ≤ 1099511627776) : Ev (fun k => laws_heldDisk.f k (mkFile c n) c) (c + 3 * n) := by
  simp only [laws_heldDisk.f]
  refine Ev.bind (laws_heldFileS_ev c n hc hc2 hn) ?_
  have h : ¬ c + 3 * (n : Int) < 0 := by omega
  simp only [h, if_false]
  exact Ev.now _

theorem laws_toIntS_l0 (l : List Int) (hl : l.length ≤ 35184372088832) : ∀ (d : Nat) (i : Int) (b : List Int), 0 ≤ i → i + d = l.length → b.length = l.length → b.take i.toNat = l.take i.toNat →
    Ev (fun k => laws_toIntS.l0 k l b i) l := by
  intro d
  induction d with
  | zero =>
    intro i b h0 h hb ht
    apply ev_succ
    have c : ¬ i < (l.length : Int) := by omega
    simp only [laws_toIntS.l0, c, if_false]
    apply ev_some
    rw [List.take_of_length_le (by omega), List.take_of_length_le (by omega)] at ht
    exact ht
  | succ d ih =>
    intro i b h0 h hb ht
    apply ev_succ
    have c : i < (l.length : Int) := by omega
    have c2 : i < (b.length : Int) := by omega
    have e5 : wrap64 (i + 1) = i + 1 := w64 (by omega) (by omega)
    simp only [laws_toIntS.l0, c, c2, h0, if_true, e5]
    refine ih (i + 1) _ (by omega) (by omega) (by rw [List.length_set]; exact hb) ?_
    rw [show (i + 1).toNat = i.toNat + 1 by omega]
    refine take_set l b i.toNat _ hb (by omega) ht ?_
    rw [rd, List.getD_eq_getElem?_getD, List.getElem?_eq_getElem (show i.toNat < l.length by omega)]
    rfl
theorem laws_toIntS_ev (l : List Int) (hl : l.length ≤ 35184372088832) : Ev (fun k => laws_toIntS.f k l) l := by
  have c1 : 0 ≤ (l.length : Int) := by omega
  have c2 : ((l.length : Int)).toNat ≤ 35184372088832 := by omega
  simp only [laws_toIntS.f, c1, c2, if_true]
  exact laws_toIntS_l0 l hl l.length 0 _ (by omega) (by omega) (by simp) (by simp)

theorem laws_eqIntS_l0 (a b : List Int) (hl : a.length = b.length) (hb : a.length ≤ 35184372088832) : ∀ (d : Nat) (i : Int), 0 ≤ i → i + d = a.length →
    Ev (fun k => laws_eqIntS.l0 k a b i) (decide (a.drop i.toNat = b.drop i.toNat)) := by
  intro d
  induction d with
  | zero =>
    intro i h0 h
    apply ev_succ
    have c : ¬ i < (a.length : Int) := by omega
    simp only [laws_eqIntS.l0, c, if_false]
    apply ev_some
    rw [List.drop_of_length_le (by omega), List.drop_of_length_le (by omega)]
    simp
  | succ d ih =>
    intro i h0 h
    apply ev_succ
    have c : i < (a.length : Int) := by omega
    have c2 : i < (b.length : Int) := by omega
    have e5 : wrap64 (i + 1) = i + 1 := w64 (by omega) (by omega)
    have hh := ih (i + 1) (by omega) (by omega)
    simp only [laws_eqIntS.l0, c, c2, h0, if_true, e5]
    rw [drop_rd a i h0 c, drop_rd b i h0 c2]
    by_cases hq : rd a i = rd b i
    · simp only [hq, if_true, List.cons.injEq, true_and]
      exact hh
    · simp only [hq, if_false, List.cons.injEq, false_and, decide_false]
      exact Ev.now _
theorem laws_eqIntS_ev (a b : List Int) (hb : a.length ≤ 35184372088832) : Ev (fun k => laws_eqIntS.f k a b) (decide (a = b)) := by
  simp only [laws_eqIntS.f]
  by_cases hl : (a.length : Int) = (b.length : Int)
  · simp only [hl, if_true]
    simpa using laws_eqIntS_l0 a b (by omega) hb a.length 0 (by omega) (by omega)
  · simp only [hl, if_false]
    rw [decide_eq_false (by rintro rfl; exact hl rfl)]
    exact Ev.now _

theorem laws_markIntS_ev (l : List Int) (a : Int) (h0 : 0 ≤ a) (h1 : a ≤ 140737488355328) (hl : l.length ≤ 140737488355328) : Ev (fun k => laws_markIntS.f k l a) (a + l.length, iota a l.length) := by
  simp only [laws_markIntS.f]
  have key := loop_up (fun k (s : List Int × Int) i => laws_markIntS.l0 k s.1 s.2 i) (l.length : Int) (a + l.length, iota a l.length)
    (fun s i => s.1.length = l.length ∧ s.2 = a + i ∧ s.1.take i.toNat = (iota a l.length).take i.toNat)
    (fun s hs => by
      obtain ⟨b, x⟩ := s
      obtain ⟨hb, rfl, ht⟩ := hs
      simp only at hb ht ⊢
      have c : ¬ (l.length : Int) < (b.length : Int) := by omega
      simp only [laws_markIntS.l0, c, if_false]
      apply ev_some
      rw [List.take_of_length_le (by omega), List.take_of_length_le (by rw [iota_len]; omega)] at ht
      rw [ht])
    (fun s i h0 h1 hs ih => by
      obtain ⟨b, x⟩ := s
      obtain ⟨hb, rfl, ht⟩ := hs
      simp only at hb ht ⊢
      have c : i < (b.length : Int) := by omega
      have e1 : wrap64 (a + i + 1) = a + i + 1 := w64 (by omega) (by omega)
      have e2 : wrap64 (i + 1) = i + 1 := w64 (by omega) (by omega)
      simp only [laws_markIntS.l0, c, h0, if_true, e1, e2]
      refine ih (b.set i.toNat (a + i), a + i + 1) ⟨by simp [hb], by simp only; omega, ?_⟩
      simp only
      rw [show (i + 1).toNat = i.toNat + 1 by omega]
      refine take_set (iota a l.length) b i.toNat _ (by rw [iota_len]; exact hb) (by rw [iota_len]; omega) ht ?_
      rw [iota_get _ _ _ (by omega)]; congr 1; omega)
  exact key l.length 0 (l, a) (by omega) (by omega) ⟨rfl, by simp, by simp⟩

theorem FnExactLoseDisk : OpenFnExactLoseDisk.Stmt := by
  intro l left hl hi
  apply ev_rounds
  simp only [laws_FnExactLoseDisk.f]
  by_cases cs : (left.length : Int) > 1048576
  · simp only [cs, if_true]
    exact Ev.now _
  simp only [cs, if_false]
  obtain ⟨r, hr, hrr⟩ := laws_szDisk_ev l 1048576 (by decide) (by decide) hl.1 (fun x hx => ⟨(hl.2 x hx).1, (hl.2 x hx).2.1⟩)
  refine Ev.bind hr ?_
  rcases hrr with hn | ⟨hn, hle, hll, hg⟩
  · simp only [hn, if_true]
    exact Ev.now _
  · have hn' : ¬ r < 0 := by omega
    simp only [hn', if_false]
    have hlen : l.length ≤ 1048576 := by omega
    have hlen' : (l.map cvFile).length ≤ 1048576 := by simpa using hlen
    have hleft : left.length ≤ 1048576 := by omega
    have ht := laws_toDisk_ev l hlen
    have hti := laws_toIntS_ev left (by omega)
    have hI := impl_LoseDisk_ev _ left hlen'
    have hS := spec_LoseDisk_ev _ left hlen'
    have hpl := pLose_len (l.map cvFile) left
    obtain ⟨p, o, hp⟩ : ∃ p o, pLose (l.map cvFile) left = (p, o) := ⟨_, _, rfl⟩
    rw [hp] at hI hS hpl
    simp only at hpl
    have hq := laws_eqDisk_ev p (by omega)
    have hq0 := laws_eqDisk_ev (l.map cvFile) (by omega)
    have hqi := laws_eqIntS_ev left left (by omega)
    rw [decide_eq_true rfl] at hqi
    have hm0 := laws_markDisk_ev (l.map cvFile) 1 (by decide) (by decide) (by omega)
    have hmi := laws_markIntS_ev left (1 + 3 * ((l.map cvFile).length : Int)) (by omega) (by omega) (by omega)
    have hm := laws_markDisk_ev p 1 (by decide) (by decide) (by omega)
    have hh := laws_heldDisk_ev 1 p.length (by decide) (by decide) (by omega)
    have h1 : ¬ (1 + 3 * ((l.map cvFile).length : Int)) + (left.length : Int) < 0 := by omega
    have h2 : ¬ (1 + 3 * (p.length : Int)) < 0 := by omega
    refine Ev.bind ht ?_
    refine Ev.bind hti ?_
    refine Ev.bind hS ?_
    refine Ev.bind ht ?_
    refine Ev.bind hti ?_
    refine Ev.bind hI ?_
    refine Ev.bind hq ?_
    simp only [if_true, bne_self_eq_false]
    apply ev_succ
    simp only [laws_FnExactLoseDisk.j0, Bool.false_eq_true, if_false]
    refine Ev.bind ht ?_
    refine Ev.bind hq0 ?_
    simp only [if_true]
    refine Ev.bind hti ?_
    refine Ev.bind hqi ?_
    simp only [if_true]
    refine Ev.bind hm0 ?_
    refine Ev.bind hmi ?_
    simp only [h1, if_false]
    refine Ev.bind hq ?_
    simp only [if_true, bne_self_eq_false]
    apply ev_succ
    simp only [laws_FnExactLoseDisk.j1, Bool.false_eq_true, if_false]
    refine Ev.bind hm ?_
    refine Ev.bind hh ?_
    simp only [h2, if_false, if_true]
    refine Ev.bind ht ?_
    refine Ev.bind hti ?_
    refine Ev.bind hI ?_
    refine Ev.bind hq ?_
    simp only [if_true, bne_self_eq_false]
    apply ev_succ
    simp only [laws_FnExactLoseDisk.j2, Bool.false_eq_true, if_false]
    refine Ev.bind hh ?_
    simp only [h2, if_false, if_true]
    exact Ev.now _

end Go.Proofs.Ytaainenplcokaaa.Pure
