/- AllKept of the program and of the reference answer the same for every disk, which stays as it is. -/
import Derived.Test.YtnnpbkocfboalaaOpenFnExactAllKept
import Derived.Test.YtnnpbkocfboalaaBaseL
namespace Go.Proofs.Ytnnpbkocfboalaa.Pure
open Go.RowKit Go.Proofs.Ytnnpbkocfboalaa.QFnExactAllKept Go.Proofs.YtnnpbkocfboalaaW.PrintWords Go.Proofs.YtnnpbkocfboalaaW.PrintLast Go.Proofs.YtnnpbkocfboalaaW.PrintMore Go.Proofs.Ytnnpbkocfboalaa.Base
set_option linter.unusedVariables false
set_option linter.unusedSimpArgs false

theorem laws_szFile_ev (a0 : ByteArray) (a1 : ByteArray) (a2 : Int) (left : Int) (h0 : 0 ≤ left) (h1 : left ≤ 1048576) (g0 : a0.size ≤ 9223372036854775807) (g1 : a1.size ≤ 9223372036854775807) : ∃ r : Int, Ev (fun _ => laws_szFile.f a0 a1 a2 left) r ∧ (r < 0 ∨ (0 ≤ r ∧ r = left - (a0.size : Int) - (a1.size : Int))) := by
  have e1 : wrap64 (left - (a0.size : Int)) = left - (a0.size : Int) := w64 (by omega) (by omega)
  by_cases c1 : left - (a0.size : Int) < 0
  · refine ⟨-1, ev_const ?_, Or.inl (by decide)⟩
    simp only [laws_szFile.f, e1, c1, if_true]
  · skip
    have e2 : wrap64 (left - (a0.size : Int) - (a1.size : Int)) = left - (a0.size : Int) - (a1.size : Int) := w64 (by omega) (by omega)
    by_cases c2 : left - (a0.size : Int) - (a1.size : Int) < 0
    · refine ⟨-1, ev_const ?_, Or.inl (by decide)⟩
      simp only [laws_szFile.f, e1, e2, c1, c2, if_true, if_false]
    · refine ⟨left - (a0.size : Int) - (a1.size : Int), ev_const ?_, Or.inr ⟨by omega, rfl⟩⟩
      simp only [laws_szFile.f, e1, e2, c1, c2, if_false]
theorem laws_szFileS_l0 (l : List (S153)) (hl : l.length ≤ 1048576) (hg : ∀ x : S153, x ∈ l → x.f0.size ≤ 9223372036854775807 ∧ x.f1.size ≤ 9223372036854775807) : ∀ (d : Nat) (i left : Int), 0 ≤ i → i + d = l.length → 0 ≤ left → left ≤ 1048576 →
    ∃ r : Int, Ev (fun k => laws_szFileS.l0 k l left i) r ∧ (r < 0 ∨ (0 ≤ r ∧ r ≤ left ∧ ∀ x : S153, x ∈ l.drop i.toNat → (x.f0.size : Int) ≤ left ∧ (x.f1.size : Int) ≤ left)) := by
  intro d
  induction d with
  | zero =>
    intro i left h0 h hl0 hl1
    refine ⟨left, ev_succ ?_, Or.inr ⟨hl0, Int.le_refl _, fun x hx => ?_⟩⟩
    · have c : ¬ i < (l.length : Int) := by omega
      simp only [laws_szFileS.l0, c, if_false]
      exact Ev.now _
    · rw [List.drop_of_length_le (by omega)] at hx
      simp at hx
  | succ d ih =>
    intro i left h0 h hl0 hl1
    have c : i < (l.length : Int) := by omega
    have hd : l.drop i.toNat = rd_T153 l i :: l.drop (i + 1).toNat := drop_get l i h0 c z153
    have hm : rd_T153 l i ∈ l := List.mem_of_mem_drop (i := i.toNat) (by rw [hd]; exact List.mem_cons_self)
    have hq := hg _ hm
    obtain ⟨r, hr, hrr⟩ := laws_szFile_ev (rd_T153 l i).f0 (rd_T153 l i).f1 (rd_T153 l i).f2 left hl0 hl1 hq.1 hq.2
    have e : wrap64 (i + 1) = i + 1 := w64 (by omega) (by omega)
    by_cases hn : r < 0
    · refine ⟨-1, ev_succ ?_, Or.inl (by decide)⟩
      simp only [laws_szFileS.l0, c, h0, if_true]
      refine Ev.bind hr ?_
      simp only [hn, if_true]
      exact Ev.now _
    · have hrr' := hrr.resolve_left hn
      obtain ⟨q, hq1, hq2⟩ := ih (i + 1) r (by omega) (by omega) hrr'.1 (by omega)
      refine ⟨q, ev_succ ?_, ?_⟩
      · simp only [laws_szFileS.l0, c, h0, if_true, e]
        refine Ev.bind hr ?_
        simp only [hn, if_false]
        exact hq1
      · rcases hq2 with hq2 | ⟨hq2, hq3, hq4⟩
        · exact Or.inl hq2
        · refine Or.inr ⟨hq2, by omega, fun x hx => ?_⟩
          rw [hd] at hx
          rcases List.mem_cons.1 hx with rfl | hx
          · omega
          · have := hq4 x hx
            omega
theorem laws_szFileS_ev (l : List (S153)) (left : Int) (h0 : 0 ≤ left) (h1 : left ≤ 1048576) (hl : l.length ≤ 9223372036854775807) (hg : ∀ x : S153, x ∈ l → x.f0.size ≤ 9223372036854775807 ∧ x.f1.size ≤ 9223372036854775807) :
    ∃ r : Int, Ev (fun k => laws_szFileS.f k l left) r ∧ (r < 0 ∨ (0 ≤ r ∧ r ≤ left ∧ (l.length : Int) ≤ left ∧ ∀ x : S153, x ∈ l → (x.f0.size : Int) ≤ left ∧ (x.f1.size : Int) ≤ left)) := by
  have e : wrap64 (left - (l.length : Int)) = left - (l.length : Int) := w64 (by omega) (by omega)
  by_cases c : left - (l.length : Int) < 0
  · refine ⟨-1, ?_, Or.inl (by decide)⟩
    simp only [laws_szFileS.f, e, c, if_true]
    exact Ev.now _
  · obtain ⟨r, hr, hrr⟩ := laws_szFileS_l0 l (by omega) hg l.length 0 (left - l.length) (by omega) (by omega) (by omega) (by omega)
    refine ⟨r, ?_, ?_⟩
    · simp only [laws_szFileS.f, e, c, if_false]
      exact hr
    · rcases hrr with hrr | ⟨h2, h3, h4⟩
      · exact Or.inl hrr
      · refine Or.inr ⟨h2, by omega, by omega, fun x hx => ?_⟩
        have := h4 x (by simpa using hx)
        omega

def cvFile (x : S153) : S42 := ⟨x.f0, x.f1, x.f2⟩
theorem laws_toFile_ev (a0 : ByteArray) (a1 : ByteArray) (a2 : Int) : Ev (fun _ => laws_toFile.f a0 a1 a2) (a0, a1, a2) := ev_const rfl
theorem laws_toFileS_ev (l : List (S153)) (hl : l.length ≤ 1048576) : Ev (fun k => laws_toFileS.f k l) (l.map cvFile) := by
  have c1 : 0 ≤ (l.length : Int) := by omega
  have c2 : ∀ n : Nat, 1048576 ≤ n → ((l.length : Int)).toNat ≤ n := fun n h => by omega
  simp only [laws_toFileS.f, c1, if_true]
  rw [ev_if (c2 _ (by decide))]
  have key := loop_up (fun k (b : List (S42)) i => laws_toFileS.l0 k l b i) (l.length : Int) (l.map cvFile) (fun b i => b.length = l.length ∧ b.take i.toNat = (l.map cvFile).take i.toNat)
    (fun b hs => by
      obtain ⟨hb, ht⟩ := hs
      have c : ¬ (l.length : Int) < (l.length : Int) := by omega
      simp only [laws_toFileS.l0, c, if_false]
      apply ev_some
      rw [List.take_of_length_le (by omega), List.take_of_length_le (by rw [List.length_map]; omega)] at ht
      exact ht)
    (fun b i h0 h1 hs ih => by
      obtain ⟨hb, ht⟩ := hs
      have c : i < (b.length : Int) := by omega
      have e2 : wrap64 (i + 1) = i + 1 := w64 (by omega) (by omega)
      simp only [laws_toFileS.l0, h1, h0, if_true, e2]
      refine Ev.bind (laws_toFile_ev _ _ _) ?_
      simp only [c, if_true]
      refine ih _ ⟨by rw [List.length_set]; exact hb, ?_⟩
      rw [show (i + 1).toNat = i.toNat + 1 by omega]
      refine take_set (l.map cvFile) b i.toNat _ (by rw [List.length_map]; exact hb) (by rw [List.length_map]; omega) ht ?_
      rw [List.getElem?_map, getElem_rd l i h0 h1 z153]
      rfl)
  exact key l.length 0 _ (by omega) (by omega) ⟨by simp, by simp⟩

theorem laws_eqFile_ev (a0 : ByteArray) (a1 : ByteArray) (a2 : Int) : Ev (fun _ => laws_eqFile.f a0 a1 a2 a0 a1 a2) true := by
  apply ev_const
  simp [laws_eqFile.f]
theorem laws_eqFileS_ev (l : List (S42)) (hl : l.length ≤ 140737488355328) : Ev (fun k => laws_eqFileS.f k l l) true := by
  simp only [laws_eqFileS.f, if_true]
  have key := loop_up (fun k (_ : Unit) i => laws_eqFileS.l0 k l l i) (l.length : Int) true (fun _ _ => True)
    (fun _ _ => by
      have c : ¬ (l.length : Int) < (l.length : Int) := by omega
      simp only [laws_eqFileS.l0, c, if_false]
      exact Ev.now _)
    (fun _ i h0 h1 _ ih => by
      have e2 : wrap64 (i + 1) = i + 1 := w64 (by omega) (by omega)
      simp only [laws_eqFileS.l0, h1, h0, if_true, e2]
      refine Ev.bind (laws_eqFile_ev _ _ _) ?_
      simp only [if_true]
      exact ih () trivial)
  exact key l.length 0 () (by omega) (by omega) trivial

theorem laws_szDisk_ev (l : List (S153)) (left : Int) (h0 : 0 ≤ left) (h1 : left ≤ 1048576) (hl : l.length ≤ 9223372036854775807) (hg : ∀ x : S153, x ∈ l → x.f0.size ≤ 9223372036854775807 ∧ x.f1.size ≤ 9223372036854775807) :
    ∃ r : Int, Ev (fun k => laws_szDisk.f k l left) r ∧ (r < 0 ∨ (0 ≤ r ∧ r ≤ left ∧ (l.length : Int) ≤ left ∧ ∀ x : S153, x ∈ l → (x.f0.size : Int) ≤ left ∧ (x.f1.size : Int) ≤ left)) := by
  obtain ⟨r, hr, hrr⟩ := laws_szFileS_ev l left h0 h1 hl hg
  refine ⟨if r < 0 then -1 else r, ?_, ?_⟩
  · simp only [laws_szDisk.f]
    refine Ev.bind hr ?_
    by_cases c : r < 0 <;> simp [c]
  · rcases hrr with h | h
    · rw [if_pos h]; exact Or.inl (by decide)
    · rw [if_neg (by omega)]; exact Or.inr h
theorem laws_toDisk_ev (l : List (S153)) (hl : l.length ≤ 1048576) : Ev (fun k => laws_toDisk.f k l) (l.map cvFile) := by
  simp only [laws_toDisk.f]
  exact Ev.bind (laws_toFileS_ev l hl) (Ev.now _)
theorem laws_eqDisk_ev (l : List (S42)) (hl : l.length ≤ 140737488355328) : Ev (fun k => laws_eqDisk.f k l l) true := by
  simp only [laws_eqDisk.f]
  refine Ev.bind (laws_eqFileS_ev l hl) ?_
  simp

theorem impl_within_ev (a b c : Int) : Ev (fun _ => impl_within.f a b c) (decide (b ≤ a ∧ a ≤ c)) := by
  apply ev_const
  unfold impl_within.f
  by_cases h : a ≥ b
  · rw [if_pos h]; simp [show b ≤ a from h]
  · rw [if_neg h]; simp [show ¬ b ≤ a from h]

def pFile (f : S42) : Bool := decide (1 ≤ f.f0.size ∧ f.f0.size ≤ 8) && decide (f.f1.size ≤ 20000) && decide (0 ≤ f.f2 ∧ f.f2 ≤ f.f1.size)
def pDiskL : Option ByteArray → List (S42) → Bool
  | _, [] => true
  | none, f :: l => pFile f && pDiskL (some f.f0) l
  | some q, f :: l => pFile f && Op.bytesLess q.toList f.f0.toList && pDiskL (some f.f0) l
def prevN (l : List (S42)) (i : Int) : Option ByteArray := if i = 0 then none else some (rd_T42 l (i - 1)).f0
def pDiskOk (l : List (S42)) : Bool := decide (l.length ≤ 30) && pDiskL none l
theorem drop_file (l : List (S42)) (i : Int) (h0 : 0 ≤ i) (h1 : i < l.length) : l.drop i.toNat = rd_T42 l i :: l.drop (i + 1).toNat := drop_get l i h0 h1 z42
theorem prevN_next (l : List (S42)) (i : Int) (h : 0 ≤ i) : prevN l (i + 1) = some (rd_T42 l i).f0 := by
  rw [prevN, if_neg (by omega), show i + 1 - 1 = i by omega]
theorem pDiskL_bad {o : Option ByteArray} {f : S42} {l : List (S42)} (h : pFile f = false) : pDiskL o (f :: l) = false := by
  cases o <;> simp [pDiskL, h]

theorem impl_DiskOk_l0 (l : List (S42)) (hl : l.length ≤ 1048576) : ∀ (d : Nat) (i : Int), 0 ≤ i → i + d = l.length → Ev (fun k => impl_DiskOk.l0 k l (l.length : Int) i l) (pDiskL (prevN l i) (l.drop i.toNat) && decide (l.length ≤ 30)) := by
  intro d
  induction d with
  | zero =>
    intro i h0 h
    apply ev_succ
    have c : ¬ i < (l.length : Int) := by omega
    simp only [impl_DiskOk.l0, c, if_false]
    rw [List.drop_of_length_le (by omega)]
    apply ev_some
    have e : decide ((l.length : Int) ≤ 30) = decide (l.length ≤ 30) := by rw [decide_eq_decide]; omega
    cases prevN l i <;> simp only [pDiskL, Bool.true_and, e]
  | succ d ih =>
    intro i h0 h
    apply ev_succ
    have c : i < (l.length : Int) := by omega
    have e1 : wrap64 (i + 1) = i + 1 := w64 (by omega) (by omega)
    have e2 : wrap64 (i - 1) = i - 1 := w64 (by omega) (by omega)
    have hh := ih (i + 1) (by omega) (by omega)
    rw [prevN_next l i h0] at hh
    rw [drop_file l i h0 c]
    have k3 : i > 0 → 0 ≤ i - 1 ∧ i - 1 < (l.length : Int) := fun _ => by omega
    have hp0 : ¬ i > 0 → prevN l i = none := fun hi => by rw [prevN, if_pos (by omega)]
    have hp1 : i > 0 → prevN l i = some (rd_T42 l (i - 1)).f0 := fun hi => by rw [prevN, if_neg (by omega)]
    simp only [impl_DiskOk.l0, c, h0, if_true, e1, e2]
    generalize rd_T42 l i = f at hh ⊢
    refine Ev.bind (impl_within_ev _ _ _) ?_
    by_cases a1 : 1 ≤ f.f0.size ∧ f.f0.size ≤ 8
    · have a1' : 1 ≤ (f.f0.size : Int) ∧ (f.f0.size : Int) ≤ 8 := by omega
      by_cases a2 : (f.f1.size : Int) > 20000
      · simp only [a1', and_self, decide_true, if_true, a2]
        apply ev_some
        rw [pDiskL_bad (by simp [pFile]; omega), Bool.false_and]
      · simp only [a1', and_self, decide_true, if_true, a2, if_false]
        refine Ev.bind (impl_within_ev _ _ _) ?_
        by_cases a3 : 0 ≤ f.f2 ∧ f.f2 ≤ (f.f1.size : Int)
        · have hf : pFile f = true := by simp [pFile, a1, a3]; omega
          by_cases hi : i > 0
          · simp only [a3, and_self, decide_true, if_true, hi, (k3 hi).1, (k3 hi).2]
            rw [hp1 hi]
            by_cases hb : Op.bytesLess (rd_T42 l (i - 1)).f0.toList f.f0.toList = true
            · simp only [hb, if_true]
              simpa [pDiskL, hf, hb] using hh
            · simp only [hb, if_false]
              apply ev_some
              simp [pDiskL, hb]
          · simp only [a3, and_self, decide_true, if_true, hi, if_false]
            rw [hp0 hi]
            simpa [pDiskL, hf] using hh
        · simp only [a3, decide_false, Bool.false_eq_true, if_false]
          apply ev_some
          rw [pDiskL_bad (by simp only [pFile, a3, decide_false, Bool.and_false]), Bool.false_and]
    · have a1' : ¬ (1 ≤ (f.f0.size : Int) ∧ (f.f0.size : Int) ≤ 8) := by omega
      simp only [a1', decide_false, Bool.false_eq_true, if_false]
      apply ev_some
      rw [pDiskL_bad (by simp only [pFile, a1, decide_false, Bool.false_and]), Bool.false_and]
theorem impl_DiskOk_ev (l : List (S42)) (hl : l.length ≤ 1048576) : Ev (fun k => impl_DiskOk.f k l) (pDiskOk l) := by
  simp only [impl_DiskOk.f]
  rw [pDiskOk, Bool.and_comm]
  have := impl_DiskOk_l0 l hl l.length 0 (by omega) (by omega)
  simpa [prevN] using this

def pKeptL (l : List (S42)) : Bool := l.all fun f => decide (f.f2 = f.f1.size)
def pAllKept (l : List (S42)) : Bool := pKeptL l && pDiskOk l
theorem pKeptL_cons (f : S42) (l : List (S42)) : pKeptL (f :: l) = (decide (f.f2 = f.f1.size) && pKeptL l) := by simp [pKeptL]
theorem pDiskL_files : ∀ (l : List (S42)) (o : Option ByteArray), pDiskL o l = true → ∀ f ∈ l, pFile f = true := by
  intro l
  induction l with
  | nil => intro o _ f hf; simp at hf
  | cons g l ih =>
    intro o h f hf
    have hg : pFile g = true ∧ pDiskL (some g.f0) l = true := by
      cases o <;> simp only [pDiskL, Bool.and_eq_true] at h
      · exact h
      · exact ⟨h.1.1, h.2⟩
    rcases List.mem_cons.1 hf with rfl | hf
    · exact hg.1
    · exact ih _ hg.2 f hf
theorem pDiskOk_files {l : List (S42)} (h : pDiskOk l = true) : l.length ≤ 30 ∧ ∀ f ∈ l, (1 ≤ f.f0.size ∧ f.f0.size ≤ 8) ∧ f.f1.size ≤ 20000 ∧ 0 ≤ f.f2 ∧ f.f2 ≤ f.f1.size := by
  simp only [pDiskOk, Bool.and_eq_true, decide_eq_true_eq] at h
  refine ⟨h.1, fun f hf => ?_⟩
  have := pDiskL_files l none h.2 f hf
  simp only [pFile, Bool.and_eq_true, decide_eq_true_eq] at this
  exact ⟨this.1.1, this.1.2, this.2⟩

theorem impl_AllKept_l0 (l : List (S42)) (hl : l.length ≤ 1048576) : ∀ (d : Nat) (i : Int), 0 ≤ i → i + d = l.length → Ev (fun k => impl_AllKept.l0 k l (l.length : Int) i l) (pKeptL (l.drop i.toNat) && pDiskOk l) := by
  intro d
  induction d with
  | zero =>
    intro i h0 h
    apply ev_succ
    have c : ¬ i < (l.length : Int) := by omega
    simp only [impl_AllKept.l0, c, if_false]
    rw [List.drop_of_length_le (by omega)]
    refine Ev.bind (impl_DiskOk_ev l hl) ?_
    simp [pKeptL]
  | succ d ih =>
    intro i h0 h
    apply ev_succ
    have c : i < (l.length : Int) := by omega
    have e1 : wrap64 (i + 1) = i + 1 := w64 (by omega) (by omega)
    have hh := ih (i + 1) (by omega) (by omega)
    rw [drop_file l i h0 c, pKeptL_cons]
    by_cases hq : (rd_T42 l i).f2 = ((rd_T42 l i).f1.size : Int)
    · simp only [impl_AllKept.l0, c, h0, if_true, e1, hq, decide_true, Bool.true_and]
      exact hh
    · simp only [impl_AllKept.l0, c, h0, if_true, hq, if_false, decide_false, Bool.false_and]
      exact Ev.now _
theorem impl_AllKept_ev (l : List (S42)) (hl : l.length ≤ 1048576) : Ev (fun k => impl_AllKept.f k l) (pAllKept l) := by
  simp only [impl_AllKept.f]
  simpa [pAllKept] using impl_AllKept_l0 l hl l.length 0 (by omega) (by omega)

theorem spec_l01In_ev (a b c : Int) : Ev (fun _ => spec_l01In.f a b c) (decide (b ≤ a ∧ a ≤ c)) := by
  apply ev_const
  unfold spec_l01In.f
  by_cases h : a ≥ b
  · rw [if_pos h]; simp [show b ≤ a from h]
  · rw [if_neg h]; simp [show ¬ b ≤ a from h]

theorem spec_l03Name_ev (s : ByteArray) : Ev (fun _ => spec_l03Name.f s) (decide (1 ≤ s.size ∧ s.size ≤ 8)) := by
  simp only [spec_l03Name.f]
  refine Ev.bind (spec_l01In_ev _ _ _) ?_
  apply ev_some
  rw [decide_eq_decide]
  omega
theorem spec_DiskOk_l0 (l : List (S42)) (hl : l.length ≤ 1048576) : ∀ (d : Nat) (i : Int), 0 ≤ i → i + d = l.length → Ev (fun k => spec_DiskOk.l0 k i l) (pDiskL (prevN l i) (l.drop i.toNat)) := by
  intro d
  induction d with
  | zero =>
    intro i h0 h
    apply ev_succ
    have c : ¬ i < (l.length : Int) := by omega
    simp only [spec_DiskOk.l0, c, if_false]
    rw [List.drop_of_length_le (by omega)]
    cases prevN l i <;> exact Ev.now _
  | succ d ih =>
    intro i h0 h
    apply ev_succ
    have c : i < (l.length : Int) := by omega
    have e1 : wrap64 (i + 1) = i + 1 := w64 (by omega) (by omega)
    have e2 : wrap64 (i - 1) = i - 1 := w64 (by omega) (by omega)
    have hh := ih (i + 1) (by omega) (by omega)
    rw [prevN_next l i h0] at hh
    rw [drop_file l i h0 c]
    have k3 : i > 0 → 0 ≤ i - 1 ∧ i - 1 < (l.length : Int) := fun _ => by omega
    have hp0 : ¬ i > 0 → prevN l i = none := fun hi => by rw [prevN, if_pos (by omega)]
    have hp1 : i > 0 → prevN l i = some (rd_T42 l (i - 1)).f0 := fun hi => by rw [prevN, if_neg (by omega)]
    simp only [spec_DiskOk.l0, c, h0, if_true, e1, e2]
    generalize rd_T42 l i = f at hh ⊢
    refine Ev.bind (spec_l03Name_ev _) ?_
    by_cases a1 : 1 ≤ f.f0.size ∧ f.f0.size ≤ 8
    · by_cases a2 : (f.f1.size : Int) > 20000
      · simp only [a1, and_self, decide_true, if_true, a2]
        apply ev_some
        rw [pDiskL_bad (by simp [pFile]; omega)]
      · simp only [a1, and_self, decide_true, if_true, a2, if_false]
        refine Ev.bind (spec_l01In_ev _ _ _) ?_
        by_cases a3 : 0 ≤ f.f2 ∧ f.f2 ≤ (f.f1.size : Int)
        · have hf : pFile f = true := by simp [pFile, a1, a3]; omega
          by_cases hi : i > 0
          · simp only [a3, and_self, decide_true, if_true, hi, (k3 hi).1, (k3 hi).2]
            rw [hp1 hi]
            by_cases hb : Op.bytesLess (rd_T42 l (i - 1)).f0.toList f.f0.toList = true
            · simp only [hb, if_true]
              simpa [pDiskL, hf, hb] using hh
            · simp only [hb, if_false]
              apply ev_some
              simp [pDiskL, hb]
          · simp only [a3, and_self, decide_true, if_true, hi, if_false]
            rw [hp0 hi]
            simpa [pDiskL, hf] using hh
        · simp only [a3, decide_false, Bool.false_eq_true, if_false]
          apply ev_some
          rw [pDiskL_bad (by simp only [pFile, a3, decide_false, Bool.and_false])]
    · simp only [a1, decide_false, Bool.false_eq_true, if_false]
      apply ev_some
      rw [pDiskL_bad (by simp only [pFile, a1, decide_false, Bool.false_and])]
theorem spec_DiskOk_ev (l : List (S42)) (hl : l.length ≤ 1048576) : Ev (fun k => spec_DiskOk.f k l) (pDiskOk l) := by
  simp only [spec_DiskOk.f]
  by_cases h : (l.length : Int) > 30
  · simp only [h, if_true]
    apply ev_some
    rw [pDiskOk, decide_eq_false (by omega), Bool.false_and]
  · simp only [h, if_false]
    rw [pDiskOk, decide_eq_true (by omega), Bool.true_and]
    have := spec_DiskOk_l0 l hl l.length 0 (by omega) (by omega)
    simpa [prevN] using this

theorem spec_AllKept_l0 (l : List (S42)) (hl : l.length ≤ 1048576) (hk : ∀ f ∈ l, f.f2 ≤ f.f1.size) : ∀ (d : Nat) (i : Int), 0 ≤ i → i + d = l.length → Ev (fun k => spec_AllKept.l0 k i l) (pKeptL (l.drop i.toNat)) := by
  intro d
  induction d with
  | zero =>
    intro i h0 h
    apply ev_succ
    have c : ¬ i < (l.length : Int) := by omega
    simp only [spec_AllKept.l0, c, if_false]
    rw [List.drop_of_length_le (by omega)]
    exact Ev.now _
  | succ d ih =>
    intro i h0 h
    apply ev_succ
    have c : i < (l.length : Int) := by omega
    have e1 : wrap64 (i + 1) = i + 1 := w64 (by omega) (by omega)
    have hh := ih (i + 1) (by omega) (by omega)
    have hd := drop_file l i h0 c
    have hm : rd_T42 l i ∈ l := List.mem_of_mem_drop (i := i.toNat) (by rw [hd]; exact List.mem_cons_self)
    have hle := hk _ hm
    rw [hd, pKeptL_cons]
    by_cases hq : (rd_T42 l i).f2 < ((rd_T42 l i).f1.size : Int)
    · have hn : ¬ (rd_T42 l i).f2 = ((rd_T42 l i).f1.size : Int) := by omega
      simp only [spec_AllKept.l0, c, h0, if_true, hq, hn, decide_false, Bool.false_and]
      exact Ev.now _
    · have hn : (rd_T42 l i).f2 = ((rd_T42 l i).f1.size : Int) := by omega
      simp only [spec_AllKept.l0, c, h0, if_true, hq, if_false, e1]
      rw [decide_eq_true hn, Bool.true_and]
      exact hh
theorem spec_AllKept_ev (l : List (S42)) (hl : l.length ≤ 1048576) : Ev (fun k => spec_AllKept.f k l) (pAllKept l) := by
  simp only [spec_AllKept.f]
  refine Ev.bind (spec_DiskOk_ev l hl) ?_
  by_cases h : pDiskOk l = true
  · simp only [h, if_true]
    rw [pAllKept, h, Bool.and_true]
    simpa using spec_AllKept_l0 l hl (fun f hf => ((pDiskOk_files h).2 f hf).2.2.2) l.length 0 (by omega) (by omega)
  · simp only [h, if_false]
    rw [Bool.not_eq_true] at h
    rw [pAllKept, h, Bool.and_false]
    exact Ev.now _

theorem FnExactAllKept : OpenFnExactAllKept.Stmt := by
  intro l hl
  apply ev_rounds
  simp only [laws_FnExactAllKept.f]
  obtain ⟨r, hr, hrr⟩ := laws_szDisk_ev l 1048576 (by decide) (by decide) hl.1 (fun x hx => ⟨(hl.2 x hx).1, (hl.2 x hx).2.1⟩)
  refine Ev.bind hr ?_
  rcases hrr with hn | ⟨hn, hle, hll, hg⟩
  · simp only [hn, if_true]
    exact Ev.now _
  · have hn' : ¬ r < 0 := by omega
    simp only [hn', if_false]
    have hlen : l.length ≤ 1048576 := by omega
    have hlen' : (l.map cvFile).length ≤ 1048576 := by simpa using hlen
    have ht := laws_toDisk_ev l hlen
    refine Ev.bind ht ?_
    refine Ev.bind (spec_AllKept_ev _ hlen') ?_
    refine Ev.bind ht ?_
    refine Ev.bind (impl_AllKept_ev _ hlen') ?_
    simp only [bne_self_eq_false, Bool.false_eq_true, if_false]
    refine Ev.bind ht ?_
    refine Ev.bind (laws_eqDisk_ev _ (by rw [List.length_map]; omega)) ?_
    simp

end Go.Proofs.Ytnnpbkocfboalaa.Pure
