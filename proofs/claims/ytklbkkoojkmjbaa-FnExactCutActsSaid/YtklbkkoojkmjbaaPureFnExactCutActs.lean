/- CutActs of the program and of the reference answer the same for every disk, list of acts, count and list of lengths; what was given stays as it is, and the answer shares nothing with it. -/
import Derived.Test.YtklbkkoojkmjbaaOpenFnExactCutActs
import Derived.Test.YtklbkkoojkmjbaaBaseL
import Derived.Test.YtklbkkoojkmjbaaBaseB
namespace Go.Proofs.Ytklbkkoojkmjbaa.Pure
open Go.RowKit Go.Proofs.Ytklbkkoojkmjbaa.QFnExactCutActs Go.Proofs.YtklbkkoojkmjbaaW.PrintWords Go.Proofs.YtklbkkoojkmjbaaW.PrintLast Go.Proofs.YtklbkkoojkmjbaaW.PrintMore Go.Proofs.Ytklbkkoojkmjbaa.Base
set_option linter.unusedVariables false
set_option linter.unusedSimpArgs false

theorem laws_szFile_ev (a0 : ByteArray) (a1 : ByteArray) (a2 : Int) (left : Int) (h0 : 0 ≤ left) (h1 : left ≤ 1048576) (g0 : a0.size ≤ 9223372036854775807) (g1 : a1.size ≤ 9223372036854775807) : ∃ r : Int, Ev (fun _ => laws_szFile.f a0 a1 a2 left) r ∧ (r < 0 ∨ (0 ≤ r ∧ r = left - (a0.size : Int) - (a1.size : Int))) := by
  have e1 : wrap64 (left - (a0.size : Int)) = left - (a0.size : Int) := w64 (by omega) (by omega)
  by_cases c1 : left - (a0.size : Int) < 0
  · refine ⟨-1, ev_const ?_, Or.inl (by decide)⟩
    simp only [laws_szFile.f, e1, c1, if_true]
  · skip
    have e2 : wrap64 (left - (a0.size : Int) - (a1.size : Int)) = left - (a0.size : Int) - (a1.size : Int) := w64 (by omega) (by omega)
    by_cases c2 : left - (a0.size : Int) - (a1.size : Int) < 0
    · refine ⟨-1, ev_const ?_, Or.inl (by decide)⟩
      simp only [laws_szFile.f, e1, e2, c1, c2, if_true, if_false]
    · refine ⟨left - (a0.size : Int) - (a1.size : Int), ev_const ?_, Or.inr ⟨by omega, rfl⟩⟩
      simp only [laws_szFile.f, e1, e2, c1, c2, if_false]
theorem laws_szFileS_l0 (l : List (S85)) (hl : l.length ≤ 1048576) (hg : ∀ x : S85, x ∈ l → x.f0.size ≤ 9223372036854775807 ∧ x.f1.size ≤ 9223372036854775807) : ∀ (d : Nat) (i left : Int), 0 ≤ i → i + d = l.length → 0 ≤ left → left ≤ 1048576 →
    ∃ r : Int, Ev (fun k => laws_szFileS.l0 k l left i) r ∧ (r < 0 ∨ (0 ≤ r ∧ r ≤ left ∧ ∀ x : S85, x ∈ l.drop i.toNat → (x.f0.size : Int) ≤ left ∧ (x.f1.size : Int) ≤ left)) := by
  intro d
  induction d with
  | zero =>
    intro i left h0 h hl0 hl1
    refine ⟨left, ev_succ ?_, Or.inr ⟨hl0, Int.le_refl _, fun x hx => ?_⟩⟩
    · have c : ¬ i < (l.length : Int) := by omega
      simp only [laws_szFileS.l0, c, if_false]
      exact Ev.now _
    · rw [List.drop_of_length_le (by omega)] at hx
      simp at hx
  | succ d ih =>
    intro i left h0 h hl0 hl1
    have c : i < (l.length : Int) := by omega
    have hd : l.drop i.toNat = rd_T85 l i :: l.drop (i + 1).toNat := drop_get l i h0 c z85
    have hm : rd_T85 l i ∈ l := List.mem_of_mem_drop (i := i.toNat) (by rw [hd]; exact List.mem_cons_self)
    have hq := hg _ hm
    obtain ⟨r, hr, hrr⟩ := laws_szFile_ev (rd_T85 l i).f0 (rd_T85 l i).f1 (rd_T85 l i).f2 left hl0 hl1 hq.1 hq.2
    have e : wrap64 (i + 1) = i + 1 := w64 (by omega) (by omega)
    by_cases hn : r < 0
    · refine ⟨-1, ev_succ ?_, Or.inl (by decide)⟩
      simp only [laws_szFileS.l0, c, h0, if_true]
      refine Ev.bind hr ?_
      simp only [hn, if_true]
      exact Ev.now _
    · have hrr' := hrr.resolve_left hn
      obtain ⟨q, hq1, hq2⟩ := ih (i + 1) r (by omega) (by omega) hrr'.1 (by omega)
      refine ⟨q, ev_succ ?_, ?_⟩
      · simp only [laws_szFileS.l0, c, h0, if_true, e]
        refine Ev.bind hr ?_
        simp only [hn, if_false]
        exact hq1
      · rcases hq2 with hq2 | ⟨hq2, hq3, hq4⟩
        · exact Or.inl hq2
        · refine Or.inr ⟨hq2, by omega, fun x hx => ?_⟩
          rw [hd] at hx
          rcases List.mem_cons.1 hx with rfl | hx
          · omega
          · have := hq4 x hx
            omega
theorem laws_szFileS_ev (l : List (S85)) (left : Int) (h0 : 0 ≤ left) (h1 : left ≤ 1048576) (hl : l.length ≤ 9223372036854775807) (hg : ∀ x : S85, x ∈ l → x.f0.size ≤ 9223372036854775807 ∧ x.f1.size ≤ 9223372036854775807) :
    ∃ r : Int, Ev (fun k => laws_szFileS.f k l left) r ∧ (r < 0 ∨ (0 ≤ r ∧ r ≤ left ∧ (l.length : Int) ≤ left ∧ ∀ x : S85, x ∈ l → (x.f0.size : Int) ≤ left ∧ (x.f1.size : Int) ≤ left)) := by
  have e : wrap64 (left - (l.length : Int)) = left - (l.length : Int) := w64 (by omega) (by omega)
  by_cases c : left - (l.length : Int) < 0
  · refine ⟨-1, ?_, Or.inl (by decide)⟩
    simp only [laws_szFileS.f, e, c, if_true]
    exact Ev.now _
  · obtain ⟨r, hr, hrr⟩ := laws_szFileS_l0 l (by omega) hg l.length 0 (left - l.length) (by omega) (by omega) (by omega) (by omega)
    refine ⟨r, ?_, ?_⟩
    · simp only [laws_szFileS.f, e, c, if_false]
      exact hr
    · rcases hrr with hrr | ⟨h2, h3, h4⟩
      · exact Or.inl hrr
      · refine Or.inr ⟨h2, by omega, by omega, fun x hx => ?_⟩
        have := h4 x (by simpa using hx)
        omega

def cvFile (x : S85) : S66 := ⟨x.f0, x.f1, x.f2⟩
theorem laws_toFile_ev (a0 : ByteArray) (a1 : ByteArray) (a2 : Int) : Ev (fun _ => laws_toFile.f a0 a1 a2) (a0, a1, a2) := ev_const rfl
theorem laws_toFileS_ev (l : List (S85)) (hl : l.length ≤ 1048576) : Ev (fun k => laws_toFileS.f k l) (l.map cvFile) := by
  have c1 : 0 ≤ (l.length : Int) := by omega
  have c2 : ∀ n : Nat, 1048576 ≤ n → ((l.length : Int)).toNat ≤ n := fun n h => by omega
  simp only [laws_toFileS.f, c1, if_true]
  rw [ev_if (c2 _ (by decide))]
  have key := loop_up (fun k (b : List (S66)) i => laws_toFileS.l0 k l b i) (l.length : Int) (l.map cvFile) (fun b i => b.length = l.length ∧ b.take i.toNat = (l.map cvFile).take i.toNat)
    (fun b hs => by
      obtain ⟨hb, ht⟩ := hs
      have c : ¬ (l.length : Int) < (l.length : Int) := by omega
      simp only [laws_toFileS.l0, c, if_false]
      apply ev_some
      rw [List.take_of_length_le (by omega), List.take_of_length_le (by rw [List.length_map]; omega)] at ht
      exact ht)
    (fun b i h0 h1 hs ih => by
      obtain ⟨hb, ht⟩ := hs
      have c : i < (b.length : Int) := by omega
      have e2 : wrap64 (i + 1) = i + 1 := w64 (by omega) (by omega)
      simp only [laws_toFileS.l0, h1, h0, if_true, e2]
      refine Ev.bind (laws_toFile_ev _ _ _) ?_
      simp only [c, if_true]
      refine ih _ ⟨by rw [List.length_set]; exact hb, ?_⟩
      rw [show (i + 1).toNat = i.toNat + 1 by omega]
      refine take_set (l.map cvFile) b i.toNat _ (by rw [List.length_map]; exact hb) (by rw [List.length_map]; omega) ht ?_
      rw [List.getElem?_map, getElem_rd l i h0 h1 z85]
      rfl)
  exact key l.length 0 _ (by omega) (by omega) ⟨by simp, by simp⟩

theorem laws_eqFile_ev (a0 : ByteArray) (a1 : ByteArray) (a2 : Int) : Ev (fun _ => laws_eqFile.f a0 a1 a2 a0 a1 a2) true := by
  apply ev_const
  simp [laws_eqFile.f]
theorem laws_eqFileS_ev (l : List (S66)) (hl : l.length ≤ 140737488355328) : Ev (fun k => laws_eqFileS.f k l l) true := by
  simp only [laws_eqFileS.f, if_true]
  have key := loop_up (fun k (_ : Unit) i => laws_eqFileS.l0 k l l i) (l.length : Int) true (fun _ _ => True)
    (fun _ _ => by
      have c : ¬ (l.length : Int) < (l.length : Int) := by omega
      simp only [laws_eqFileS.l0, c, if_false]
      exact Ev.now _)
    (fun _ i h0 h1 _ ih => by
      have e2 : wrap64 (i + 1) = i + 1 := w64 (by omega) (by omega)
      simp only [laws_eqFileS.l0, h1, h0, if_true, e2]
      refine Ev.bind (laws_eqFile_ev _ _ _) ?_
      simp only [if_true]
      exact ih () trivial)
  exact key l.length 0 () (by omega) (by omega) trivial

theorem laws_szDisk_ev (l : List (S85)) (left : Int) (h0 : 0 ≤ left) (h1 : left ≤ 1048576) (hl : l.length ≤ 9223372036854775807) (hg : ∀ x : S85, x ∈ l → x.f0.size ≤ 9223372036854775807 ∧ x.f1.size ≤ 9223372036854775807) :
    ∃ r : Int, Ev (fun k => laws_szDisk.f k l left) r ∧ (r < 0 ∨ (0 ≤ r ∧ r ≤ left ∧ (l.length : Int) ≤ left ∧ ∀ x : S85, x ∈ l → (x.f0.size : Int) ≤ left ∧ (x.f1.size : Int) ≤ left)) := by
  obtain ⟨r, hr, hrr⟩ := laws_szFileS_ev l left h0 h1 hl hg
  refine ⟨if r < 0 then -1 else r, ?_, ?_⟩
  · simp only [laws_szDisk.f]
    refine Ev.bind hr ?_
    by_cases c : r < 0 <;> simp [c]
  · rcases hrr with h | h
    · rw [if_pos h]; exact Or.inl (by decide)
    · rw [if_neg (by omega)]; exact Or.inr h
theorem laws_toDisk_ev (l : List (S85)) (hl : l.length ≤ 1048576) : Ev (fun k => laws_toDisk.f k l) (l.map cvFile) := by
  simp only [laws_toDisk.f]
  exact Ev.bind (laws_toFileS_ev l hl) (Ev.now _)
theorem laws_eqDisk_ev (l : List (S66)) (hl : l.length ≤ 140737488355328) : Ev (fun k => laws_eqDisk.f k l l) true := by
  simp only [laws_eqDisk.f]
  refine Ev.bind (laws_eqFileS_ev l hl) ?_
  simp

def pFile (f : S66) : Bool := decide (1 ≤ f.f0.size ∧ f.f0.size ≤ 8) && decide (f.f1.size ≤ 20000) && decide (0 ≤ f.f2 ∧ f.f2 ≤ f.f1.size)
def pDiskL : Option ByteArray → List (S66) → Bool
  | _, [] => true
  | none, f :: l => pFile f && pDiskL (some f.f0) l
  | some q, f :: l => pFile f && Op.bytesLess q.toList f.f0.toList && pDiskL (some f.f0) l
def prevN (l : List (S66)) (i : Int) : Option ByteArray := if i = 0 then none else some (rd_T66 l (i - 1)).f0
def pDiskOk (l : List (S66)) : Bool := decide (l.length ≤ 30) && pDiskL none l
theorem drop_file (l : List (S66)) (i : Int) (h0 : 0 ≤ i) (h1 : i < l.length) : l.drop i.toNat = rd_T66 l i :: l.drop (i + 1).toNat := drop_get l i h0 h1 z66
theorem prevN_next (l : List (S66)) (i : Int) (h : 0 ≤ i) : prevN l (i + 1) = some (rd_T66 l i).f0 := by
  rw [prevN, if_neg (by omega), show i + 1 - 1 = i by omega]
theorem pDiskL_bad {o : Option ByteArray} {f : S66} {l : List (S66)} (h : pFile f = false) : pDiskL o (f :: l) = false := by
  cases o <;> simp [pDiskL, h]

def pKeptL (l : List (S66)) : Bool := l.all fun f => decide (f.f2 = f.f1.size)
def pAllKept (l : List (S66)) : Bool := pKeptL l && pDiskOk l
theorem pKeptL_cons (f : S66) (l : List (S66)) : pKeptL (f :: l) = (decide (f.f2 = f.f1.size) && pKeptL l) := by simp [pKeptL]
theorem pDiskL_files : ∀ (l : List (S66)) (o : Option ByteArray), pDiskL o l = true → ∀ f ∈ l, pFile f = true := by
  intro l
  induction l with
  | nil => intro o _ f hf; simp at hf
  | cons g l ih =>
    intro o h f hf
    have hg : pFile g = true ∧ pDiskL (some g.f0) l = true := by
      cases o <;> simp only [pDiskL, Bool.and_eq_true] at h
      · exact h
      · exact ⟨h.1.1, h.2⟩
    rcases List.mem_cons.1 hf with rfl | hf
    · exact hg.1
    · exact ih _ hg.2 f hf
theorem pDiskOk_files {l : List (S66)} (h : pDiskOk l = true) : l.length ≤ 30 ∧ ∀ f ∈ l, (1 ≤ f.f0.size ∧ f.f0.size ≤ 8) ∧ f.f1.size ≤ 20000 ∧ 0 ≤ f.f2 ∧ f.f2 ≤ f.f1.size := by
  simp only [pDiskOk, Bool.and_eq_true, decide_eq_true_eq] at h
  refine ⟨h.1, fun f hf => ?_⟩
  have := pDiskL_files l none h.2 f hf
  simp only [pFile, Bool.and_eq_true, decide_eq_true_eq] at this
  exact ⟨this.1.1, this.1.2, this.2⟩

def ltF (a b : S66) : Bool := Op.bytesLess a.f0.toList b.f0.toList
def pPut (l : List (S66)) (f : S66) : List (S66) := l.filter (fun x => ltF x f) ++ (f :: l.filter (fun x => ltF f x))
theorem pPut_len (l : List (S66)) (f : S66) : (pPut l f).length ≤ l.length + 1 := by
  have := filter_two (fun x => ltF x f) (fun x => ltF f x) (fun x h => bl_asymm h) l
  simp only [pPut, List.length_append, List.length_cons]
  omega
theorem pDiskL_iff (l : List (S66)) : ∀ o : Option ByteArray, pDiskL o l = true ↔ ((∀ f ∈ l, pFile f = true) ∧ l.Pairwise (fun a b => ltF a b = true) ∧ ∀ q, o = some q → ∀ f ∈ l, Op.bytesLess q.toList f.f0.toList = true) := by
  induction l with
  | nil =>
    intro o
    cases o <;> simp [pDiskL]
  | cons x l ih =>
    intro o
    have hx := ih (some x.f0)
    have e1 : pDiskL o (x :: l) = true ↔ (pFile x = true ∧ (∀ q, o = some q → Op.bytesLess q.toList x.f0.toList = true) ∧ pDiskL (some x.f0) l = true) := by
      cases o with
      | none => simp [pDiskL]
      | some q => simp [pDiskL, and_assoc]
    rw [e1, hx]
    constructor
    · rintro ⟨h1, h2, h3, h4, h5⟩
      refine ⟨fun f hf => ?_, List.pairwise_cons.2 ⟨fun f hf => h5 _ rfl f hf, h4⟩, fun q hq f hf => ?_⟩
      · rcases List.mem_cons.1 hf with rfl | hf
        · exact h1
        · exact h3 f hf
      · rcases List.mem_cons.1 hf with rfl | hf
        · exact h2 q hq
        · exact bl_trans _ _ _ (h2 q hq) (h5 _ rfl f hf)
    · rintro ⟨h1, h2, h3⟩
      rw [List.pairwise_cons] at h2
      exact ⟨h1 x List.mem_cons_self, fun q hq => h3 q hq x List.mem_cons_self, fun f hf => h1 f (List.mem_cons_of_mem _ hf), h2.2, fun q hq f hf => by cases hq; exact h2.1 f hf⟩
theorem pPut_ok {l : List (S66)} {f : S66} (h : pDiskL none l = true) (hf : pFile f = true) : pDiskL none (pPut l f) = true := by
  rw [pDiskL_iff] at h ⊢
  refine ⟨fun x hx => ?_, ?_, fun q hq => by cases hq⟩
  · simp only [pPut, List.mem_append, List.mem_cons, List.mem_filter] at hx
    rcases hx with hx | rfl | hx
    · exact h.1 x hx.1
    · exact hf
    · exact h.1 x hx.1
  · unfold pPut
    rw [List.pairwise_append]
    refine ⟨h.2.1.filter _, List.pairwise_cons.2 ⟨fun x hx => (List.mem_filter.1 hx).2, h.2.1.filter _⟩, fun a ha b hb => ?_⟩
    have ha := (List.mem_filter.1 ha).2
    rcases List.mem_cons.1 hb with rfl | hb
    · exact ha
    · exact bl_trans _ _ _ ha (List.mem_filter.1 hb).2

def pAtF (n : ByteArray) (l : List (S66)) (i : Nat) : Int := Lib.idxByFrom (fun (_ : S66) y => y.f0.toList == n.toList) z66 l i
theorem pAtF_nil (n : ByteArray) (i : Nat) : pAtF n [] i = -1 := rfl
theorem pAtF_cons (n : ByteArray) (f : S66) (l : List (S66)) (i : Nat) : pAtF n (f :: l) i = if (f.f0.toList == n.toList) = true then (i : Int) else pAtF n l (i + 1) := rfl
theorem pAtF_in (n : ByteArray) : ∀ (l : List (S66)) (i : Nat), pAtF n l i = -1 ∨ ((i : Int) ≤ pAtF n l i ∧ pAtF n l i < i + l.length) := by
  intro l
  induction l with
  | nil => intro i; exact Or.inl rfl
  | cons f l ih =>
    intro i
    rw [pAtF_cons]
    split
    · right; rw [List.length_cons]; omega
    · rcases ih (i + 1) with h | h
      · exact Or.inl h
      · right; rw [List.length_cons]; omega
def pAt (l : List (S66)) (n : ByteArray) : Int := pAtF n l 0
def pFileAt (l : List (S66)) (n : ByteArray) : ByteArray × Bool := if pAt l n < 0 then (⟨#[]⟩, false) else ((rd_T66 l (pAt l n)).f1, true)

def keepF (n : ByteArray) (y : S66) : Bool := !(y.f0.toList == n.toList)
def pWithout (l : List (S66)) (n : ByteArray) : List (S66) := l.filter (keepF n)
theorem pWithout_len (l : List (S66)) (n : ByteArray) : (pWithout l n).length ≤ l.length := List.length_filter_le _ _
theorem place_nil (n : ByteArray) : impl_withFile.place n [] = 0 := rfl
theorem place_cons (n : ByteArray) (y : S66) (r : List (S66)) : impl_withFile.place n (y :: r) = if Op.bytesLess y.f0.toList n.toList = true then impl_withFile.place n r + 1 else 0 := rfl
theorem put_cons_lt (f y : S66) (r : List (S66)) (h : Op.bytesLess y.f0.toList f.f0.toList = true) : impl_withFile.put f (y :: r) = y :: impl_withFile.put f r := by
  unfold impl_withFile.put
  rw [place_cons, if_pos h]
  rfl
theorem put_cons_ge (f y : S66) (r : List (S66)) (h : ¬ Op.bytesLess y.f0.toList f.f0.toList = true) : impl_withFile.put f (y :: r) = f :: y :: r := by
  unfold impl_withFile.put
  rw [place_cons, if_neg h]
  rfl
/-- On a disk in order, the two ways of putting a file in its place. -/
theorem put_eq (f : S66) : ∀ (l : List (S66)), l.Pairwise (fun a b => ltF a b = true) → impl_withFile.put f (pWithout l f.f0) = pPut l f
  | [], _ => rfl
  | y :: r, h => by
    obtain ⟨h1, h2⟩ := List.pairwise_cons.1 h
    have ih := put_eq f r h2
    unfold pWithout pPut at ih ⊢
    by_cases c1 : Op.bytesLess y.f0.toList f.f0.toList = true
    · have c2 : Op.bytesLess f.f0.toList y.f0.toList = false := bl_asymm c1
      have c3 : keepF f.f0 y = true := by
        unfold keepF
        rw [Bool.not_eq_true', beq_eq_false_iff_ne]
        intro e
        rw [e, bl_irrefl] at c1
        cases c1
      rw [List.filter_cons_of_pos (by exact c3), List.filter_cons_of_pos (by exact c1), List.filter_cons_of_neg (by unfold ltF; rw [c2]; decide), put_cons_lt f y _ c1, ih]
      rfl
    · have c1' : Op.bytesLess y.f0.toList f.f0.toList = false := by simpa using c1
      by_cases c3 : y.f0.toList = f.f0.toList
      · have c2 : Op.bytesLess f.f0.toList y.f0.toList = false := by rw [c3]; exact bl_irrefl _
        rw [List.filter_cons_of_neg (by unfold keepF; rw [c3]; simp), List.filter_cons_of_neg (by unfold ltF; rw [c1']; decide), List.filter_cons_of_neg (by unfold ltF; rw [c2]; decide)]
        exact ih
      · have c2 : Op.bytesLess f.f0.toList y.f0.toList = true := (by rcases bl_tri f.f0.toList y.f0.toList with h | h | h; exact h; exact absurd h.symm c3; exact absurd h c1)
        have k1 : ∀ x ∈ r, Op.bytesLess f.f0.toList x.f0.toList = true := fun x hx => bl_trans _ _ _ c2 (h1 x hx)
        have k2 : r.filter (fun x => ltF x f) = [] := List.filter_eq_nil_iff.2 (fun x hx => by unfold ltF; rw [bl_asymm (k1 x hx)]; decide)
        have k3 : r.filter (fun x => ltF f x) = r := List.filter_eq_self.2 (fun x hx => k1 x hx)
        have k4 : r.filter (keepF f.f0) = r := List.filter_eq_self.2 (fun x hx => by
          unfold keepF
          rw [Bool.not_eq_true', beq_eq_false_iff_ne]
          intro e
          have := k1 x hx
          rw [e, bl_irrefl] at this
          cases this)
        rw [List.filter_cons_of_pos (by unfold keepF; rw [Bool.not_eq_true', beq_eq_false_iff_ne]; exact c3), List.filter_cons_of_neg (by unfold ltF; rw [c1']; decide), List.filter_cons_of_pos (by exact c2), k2, k3, k4, put_cons_ge f y _ c1]
        rfl
theorem pDiskOk_pair {l : List (S66)} (h : pDiskOk l = true) : l.length ≤ 30 ∧ pDiskL none l = true ∧ l.Pairwise (fun a b => ltF a b = true) := by
  unfold pDiskOk at h
  rw [Bool.and_eq_true, decide_eq_true_eq] at h
  exact ⟨h.1, h.2, ((pDiskL_iff l none).1 h.2).2.1⟩
theorem pDiskOk_bad {l : List (S66)} {f : S66} (hm : f ∈ l) (hf : pFile f = false) : pDiskOk l = false := by
  unfold pDiskOk
  rw [Bool.and_eq_false_iff]
  right
  cases h : pDiskL none l with
  | false => rfl
  | true => rw [pDiskL_files l none h f hm] at hf; cases hf
theorem pPut_mem (l : List (S66)) (f : S66) : f ∈ pPut l f := by unfold pPut; simp
theorem pFile_name {f : S66} (h : ¬ (1 ≤ f.f0.size ∧ f.f0.size ≤ 8)) : pFile f = false := by unfold pFile; rw [decide_eq_false h]; rfl
theorem impl_withFile_eq (l : List (S66)) (f : S66) (hl : l.length < 1000000) (hp : l.Pairwise (fun a b => ltF a b = true)) : impl_withFile.f l f.f0 f.f1 f.f2 = some (pPut l f) := by
  unfold impl_withFile.f impl_withoutFile.f
  rw [if_pos hl, Option.bind_some]
  have := put_eq f l hp
  unfold pWithout at this
  exact congrArg some this
theorem impl_withoutFile_eq (l : List (S66)) (n : ByteArray) (hl : l.length < 1000000) : impl_withoutFile.f l n = some (pWithout l n) := by
  unfold impl_withoutFile.f
  rw [if_pos hl]
  rfl
/-- The file that an act is about: the one of its name, or a new one. -/
def pOf (l : List (S66)) (n : ByteArray) : S66 := if pAt l n < 0 then ⟨n, ⟨#[]⟩, 0⟩ else rd_T66 l (pAt l n)
def okOut (l : List (S66)) : List (S66) × Bool := if pDiskOk l = true then (l, true) else ([], false)
def pDoAct (l : List (S66)) (k : Int) (n t o : ByteArray) : List (S66) × Bool :=
  if pDiskOk l = true then
    (if k = 1 then (if o.toList = [] then okOut (pPut l ⟨(pOf l n).f0, (pOf l n).f1 ++ t, (pOf l n).f2⟩) else ([], false))
     else if pAt l n < 0 then ([], false)
     else if k = 2 then (if o.toList = [] ∧ t.toList = [] then okOut (pPut l ⟨(pOf l n).f0, (pOf l n).f1, (pOf l n).f1.size⟩) else ([], false))
     else if k = 3 then (if t.toList = [] ∧ (pOf l n).f2 = (pOf l n).f1.size ∧ ¬ o.toList = n.toList then okOut (pPut (pWithout l n) ⟨o, (pOf l n).f1, (pOf l n).f2⟩) else ([], false))
     else if k = 4 then (if o.toList = [] ∧ t.toList = [] then okOut (pWithout l n) else ([], false))
     else ([], false))
  else ([], false)
theorem pAt_get (l : List (S66)) (n : ByteArray) (h : ¬ pAt l n < 0) : 0 ≤ pAt l n ∧ pAt l n < (l.length : Int) := by
  have := pAtF_in n l 0
  unfold pAt at h ⊢
  omega
theorem rd_mem (l : List (S66)) (i : Int) (h0 : 0 ≤ i) (h1 : i < (l.length : Int)) : rd_T66 l i ∈ l := by
  have hlt : i.toNat < l.length := by omega
  unfold rd_T66
  rw [List.getD_eq_getElem?_getD, List.getElem?_eq_getElem hlt]
  exact List.getElem_mem hlt
theorem okOut_len (l : List (S66)) : (okOut l).1.length ≤ 30 := by
  unfold okOut
  split
  · rename_i h; exact (pDiskOk_pair h).1
  · exact Nat.zero_le _
theorem pDoAct_len (l : List (S66)) (k : Int) (n t o : ByteArray) : (pDoAct l k n t o).1.length ≤ 30 := by
  unfold pDoAct
  repeat' split
  all_goals first | exact okOut_len _ | exact Nat.zero_le _
theorem pAtF_name (n : ByteArray) : ∀ (l : List (S66)) (i : Nat), ¬ pAtF n l i < 0 → (rd_T66 l (pAtF n l i - i)).f0.toList = n.toList
  | [], i, h => absurd (by decide : (-1 : Int) < 0) h
  | f :: l, i, h => by
    rw [pAtF_cons] at h ⊢
    by_cases c : (f.f0.toList == n.toList) = true
    · rw [if_pos c, show ((i : Int) - (i : Int)) = 0 by omega]
      exact beq_iff_eq.1 c
    · rw [if_neg c] at h ⊢
      have ih := pAtF_name n l (i + 1) h
      have hin := (pAtF_in n l (i + 1)).resolve_left (fun e => h (by rw [e]; decide))
      rw [← ih]
      obtain ⟨m, hm⟩ : ∃ m : Nat, pAtF n l (i + 1) = ((i + 1 + m : Nat) : Int) := ⟨(pAtF n l (i + 1) - (i + 1)).toNat, by omega⟩
      rw [hm, show (((i + 1 + m : Nat) : Int) - (i : Int)) = ((m + 1 : Nat) : Int) by omega, show (((i + 1 + m : Nat) : Int) - ((i + 1 : Nat) : Int)) = (m : Int) by omega]
      unfold rd_T66
      rw [Int.toNat_natCast, Int.toNat_natCast]
      rfl
theorem pAt_name (l : List (S66)) (n : ByteArray) (h : ¬ pAt l n < 0) : (rd_T66 l (pAt l n)).f0.toList = n.toList := by
  have := pAtF_name n l 0 h
  rw [show (pAtF n l 0 - ((0 : Nat) : Int)) = pAtF n l 0 by omega] at this
  exact this

theorem impl_within_ev (a b c : Int) : Ev (fun _ => impl_within.f a b c) (decide (b ≤ a ∧ a ≤ c)) := by
  apply ev_const
  unfold impl_within.f
  by_cases h : a ≥ b
  · rw [if_pos h]; simp [show b ≤ a from h]
  · rw [if_neg h]; simp [show ¬ b ≤ a from h]

theorem impl_DiskOk_l0 (l : List (S66)) (hl : l.length ≤ 1048576) : ∀ (d : Nat) (i : Int), 0 ≤ i → i + d = l.length → Ev (fun k => impl_DiskOk.l0 k l (l.length : Int) i l) (pDiskL (prevN l i) (l.drop i.toNat) && decide (l.length ≤ 30)) := by
  intro d
  induction d with
  | zero =>
    intro i h0 h
    apply ev_succ
    have c : ¬ i < (l.length : Int) := by omega
    simp only [impl_DiskOk.l0, c, if_false]
    rw [List.drop_of_length_le (by omega)]
    apply ev_some
    have e : decide ((l.length : Int) ≤ 30) = decide (l.length ≤ 30) := by rw [decide_eq_decide]; omega
    cases prevN l i <;> simp only [pDiskL, Bool.true_and, e]
  | succ d ih =>
    intro i h0 h
    apply ev_succ
    have c : i < (l.length : Int) := by omega
    have e1 : wrap64 (i + 1) = i + 1 := w64 (by omega) (by omega)
    have e2 : wrap64 (i - 1) = i - 1 := w64 (by omega) (by omega)
    have hh := ih (i + 1) (by omega) (by omega)
    rw [prevN_next l i h0] at hh
    rw [drop_file l i h0 c]
    have k3 : i > 0 → 0 ≤ i - 1 ∧ i - 1 < (l.length : Int) := fun _ => by omega
    have hp0 : ¬ i > 0 → prevN l i = none := fun hi => by rw [prevN, if_pos (by omega)]
    have hp1 : i > 0 → prevN l i = some (rd_T66 l (i - 1)).f0 := fun hi => by rw [prevN, if_neg (by omega)]
    simp only [impl_DiskOk.l0, c, h0, if_true, e1, e2]
    generalize rd_T66 l i = f at hh ⊢
    refine Ev.bind (impl_within_ev _ _ _) ?_
    by_cases a1 : 1 ≤ f.f0.size ∧ f.f0.size ≤ 8
    · have a1' : 1 ≤ (f.f0.size : Int) ∧ (f.f0.size : Int) ≤ 8 := by omega
      by_cases a2 : (f.f1.size : Int) > 20000
      · simp only [a1', and_self, decide_true, if_true, a2]
        apply ev_some
        rw [pDiskL_bad (by simp [pFile]; omega), Bool.false_and]
      · simp only [a1', and_self, decide_true, if_true, a2, if_false]
        refine Ev.bind (impl_within_ev _ _ _) ?_
        by_cases a3 : 0 ≤ f.f2 ∧ f.f2 ≤ (f.f1.size : Int)
        · have hf : pFile f = true := by simp [pFile, a1, a3]; omega
          by_cases hi : i > 0
          · simp only [a3, and_self, decide_true, if_true, hi, (k3 hi).1, (k3 hi).2]
            rw [hp1 hi]
            by_cases hb : Op.bytesLess (rd_T66 l (i - 1)).f0.toList f.f0.toList = true
            · simp only [hb, if_true]
              simpa [pDiskL, hf, hb] using hh
            · simp only [hb, if_false]
              apply ev_some
              simp [pDiskL, hb]
          · simp only [a3, and_self, decide_true, if_true, hi, if_false]
            rw [hp0 hi]
            simpa [pDiskL, hf] using hh
        · simp only [a3, decide_false, Bool.false_eq_true, if_false]
          apply ev_some
          rw [pDiskL_bad (by simp only [pFile, a3, decide_false, Bool.and_false]), Bool.false_and]
    · have a1' : ¬ (1 ≤ (f.f0.size : Int) ∧ (f.f0.size : Int) ≤ 8) := by omega
      simp only [a1', decide_false, Bool.false_eq_true, if_false]
      apply ev_some
      rw [pDiskL_bad (by simp only [pFile, a1, decide_false, Bool.false_and]), Bool.false_and]
theorem impl_DiskOk_ev (l : List (S66)) (hl : l.length ≤ 1048576) : Ev (fun k => impl_DiskOk.f k l) (pDiskOk l) := by
  simp only [impl_DiskOk.f]
  rw [pDiskOk, Bool.and_comm]
  have := impl_DiskOk_l0 l hl l.length 0 (by omega) (by omega)
  simpa [prevN] using this

theorem ev_to {α : Type} {g : Nat → Option α} {r q : α} (h : Ev g r) (e : r = q) : Ev g q := by subst e; exact h
theorem impl_actOk_ev (k : Int) (n t o : ByteArray) : Ev (fun _ => impl_actOk.f k n t o) (decide ((1 ≤ k ∧ k ≤ 4) ∧ (t.toList = [] ∨ k = 1) ∧ (o.toList = [] ∨ k = 3))) := by
  simp only [impl_actOk.f]
  refine Ev.bind (impl_within_ev _ _ _) ?_
  by_cases c1 : 1 ≤ k ∧ k ≤ 4
  · by_cases c2 : t.toList = []
    · by_cases c3 : o.toList = []
      · simp [c1, c2, c3]
      · by_cases c4 : k = 3
        · simp [c1, c2, c3, c4]
        · simp [c1, c2, c3, c4]
    · by_cases c5 : k = 1
      · by_cases c3 : o.toList = []
        · simp [c2, c3, c5]
        · simp [c2, c3, c5]
      · simp [c1, c2, c5]
  · simp [c1]
theorem okOut_ev (l : List (S66)) (hl : l.length ≤ 1048576) : Ev (fun k => (impl_DiskOk.f k l).bind fun t => (if t = true then (some (l, true)) else (some (([] : List (S66)), false)))) (okOut l) := by
  refine Ev.bind (impl_DiskOk_ev l hl) ?_
  unfold okOut
  by_cases c : pDiskOk l = true
  · simp only [c, if_true]; exact Ev.now _
  · simp only [c, if_false]; exact Ev.now _
theorem impl_DoAct_j1 (l : List (S66)) (k : Int) (n t o : ByteArray) (f : S66) (hd : pDiskOk l = true) (ht : t.size ≤ 1048576) (hft : f.f1.size ≤ 1048576) :
    Ev (fun q => impl_DoAct.j1 q l k n t o f.f0 f.f1 f.f2) (if k = 1 then okOut (pPut l ⟨f.f0, f.f1 ++ t, f.f2⟩) else if k = 2 then okOut (pPut l ⟨f.f0, f.f1, f.f1.size⟩) else if k = 3 then (if f.f2 = f.f1.size ∧ ¬ o.toList = n.toList then okOut (pPut (pWithout l n) ⟨o, f.f1, f.f2⟩) else ([], false)) else okOut (pWithout l n)) := by
  obtain ⟨hl, hdl, hp⟩ := pDiskOk_pair hd
  have L := fun g => pPut_len l g
  have LW := pWithout_len l n
  have hpw : (pWithout l n).Pairwise (fun a b => ltF a b = true) := hp.filter _
  apply ev_succ
  by_cases c1 : k = 1
  · have w := impl_withFile_eq l ⟨f.f0, f.f1 ++ t, f.f2⟩ (by omega) hp
    have c : f.f1.size + t.size ≤ 9223372036854775807 := by omega
    simp only [impl_DoAct.j1, c1, if_true, c]
    rw [w]
    simp only [Option.bind_some]
    exact okOut_ev _ (by have := L ⟨f.f0, f.f1 ++ t, f.f2⟩; omega)
  by_cases c2 : k = 2
  · have w := impl_withFile_eq l ⟨f.f0, f.f1, f.f1.size⟩ (by omega) hp
    have c1' : ¬ (2 : Int) = 1 := by decide
    simp only [impl_DoAct.j1, c2, c1', if_true, if_false]
    rw [w]
    simp only [Option.bind_some]
    exact okOut_ev _ (by have := L ⟨f.f0, f.f1, f.f1.size⟩; omega)
  by_cases c3 : k = 3
  · have c1' : ¬ (3 : Int) = 1 := by decide
    have c2' : ¬ (3 : Int) = 2 := by decide
    simp only [impl_DoAct.j1, c3, c1', c2', if_true, if_false]
    by_cases d1 : f.f2 = f.f1.size
    · simp only [d1, if_true, true_and]
      by_cases d2 : o.toList = n.toList
      · apply ev_succ
        simp only [impl_DoAct.j2, d2, beq_self_eq_true, if_true, not_true, if_false]
        exact Ev.now _
      · have d2' : (o.toList == n.toList) = false := beq_eq_false_iff_ne.2 d2
        apply ev_succ
        have w := impl_withFile_eq (pWithout l n) ⟨o, f.f1, f.f1.size⟩ (by omega) hpw
        simp only [impl_DoAct.j2, d2, d2', Bool.false_eq_true, not_false_eq_true, if_true, if_false, impl_withoutFile_eq l n (by omega), Option.bind_some]
        rw [w]
        simp only [Option.bind_some]
        exact okOut_ev _ (by have := pPut_len (pWithout l n) ⟨o, f.f1, f.f1.size⟩; omega)
    · simp only [d1, if_false, false_and]
      apply ev_succ
      simp only [impl_DoAct.j2, if_true]
      exact Ev.now _
  · simp only [impl_DoAct.j1, c1, c2, c3, if_false, impl_withoutFile_eq l n (by omega), Option.bind_some]
    exact okOut_ev _ (by omega)
theorem pOf_f1 (l : List (S66)) (n : ByteArray) (hd : pDiskOk l = true) : (pOf l n).f1.size ≤ 1048576 := by
  unfold pOf
  split
  · exact Nat.zero_le _
  · rename_i h
    have h2 := pAt_get l n h
    have := (pDiskOk_files hd).2 _ (rd_mem l _ h2.1 h2.2)
    omega
theorem impl_DoAct_ev (l : List (S66)) (k : Int) (n t o : ByteArray) (hl : l.length ≤ 1048576) (ht : t.size ≤ 1048576) : Ev (fun q => impl_DoAct.f q l k n t o) (pDoAct l k n t o) := by
  have hp : impl_placeOf.f l n = some (pAt l n) := rfl
  simp only [impl_DoAct.f, hp, Option.bind_some]
  refine Ev.bind (impl_DiskOk_ev l hl) ?_
  unfold pDoAct
  by_cases c0 : pDiskOk l = true
  · have hf1 := pOf_f1 l n c0
    have J := impl_DoAct_j1 l k n t o (pOf l n) c0 ht hf1
    simp only [c0, if_true]
    refine Ev.bind (impl_actOk_ev k n t o) ?_
    by_cases ca : (1 ≤ k ∧ k ≤ 4) ∧ (t.toList = [] ∨ k = 1) ∧ (o.toList = [] ∨ k = 3)
    · simp only [decide_eq_true ca, if_true]
      by_cases cn : pAt l n < 0
      · have e : pOf l n = ⟨n, ⟨#[]⟩, 0⟩ := by unfold pOf; rw [if_pos cn]
        have cn2 : ¬ pAt l n ≥ 0 := by omega
        rw [e] at J ⊢
        simp only [cn, if_true]
        apply ev_succ
        by_cases c1 : k = 1
        · have co : o.toList = [] := by rcases ca.2.2 with h | h; exact h; omega
          rw [c1] at J
          simp only [impl_DoAct.j0, c1, bne_self_eq_false, Bool.false_eq_true, if_false, cn2, if_true, co] at J ⊢
          exact J
        · have c1' : (k != 1) = true := by simpa using c1
          simp only [impl_DoAct.j0, c1, c1', if_true, if_false]
          exact Ev.now _
      · have e : pOf l n = rd_T66 l (pAt l n) := by unfold pOf; rw [if_neg cn]
        have h2 := pAt_get l n cn
        have cn2 : pAt l n ≥ 0 := h2.1
        rw [e] at J ⊢
        simp only [cn, if_false]
        apply ev_succ
        simp only [impl_DoAct.j0, Bool.false_eq_true, if_false, cn2, h2.1, h2.2, if_true]
        refine ev_to J ?_
        by_cases c1 : k = 1
        · have co : o.toList = [] := by rcases ca.2.2 with h | h; exact h; omega
          simp only [c1, co, if_true]
        · have ct : t.toList = [] := by rcases ca.2.1 with h | h; exact h; exact absurd h c1
          by_cases c2 : k = 2
          · have co : o.toList = [] := by rcases ca.2.2 with h | h; exact h; omega
            simp only [c2, ct, co, if_true, and_self, show ¬ (2 : Int) = 1 by decide, if_false]
          · by_cases c3 : k = 3
            · simp only [c3, ct, true_and, show ¬ (3 : Int) = 1 by decide, show ¬ (3 : Int) = 2 by decide, if_false, if_true]
            · have c4 : k = 4 := by omega
              have co : o.toList = [] := by rcases ca.2.2 with h | h; exact h; omega
              simp only [c4, ct, co, and_self, show ¬ (4 : Int) = 1 by decide, show ¬ (4 : Int) = 2 by decide, show ¬ (4 : Int) = 3 by decide, if_false, if_true]
    · simp only [decide_eq_false ca, Bool.false_eq_true, if_false]
      apply ev_succ
      simp only [impl_DoAct.j0, if_true]
      refine ev_some ?_
      by_cases c1 : k = 1
      · have co : ¬ o.toList = [] := fun h => ca ⟨by omega, Or.inr c1, Or.inl h⟩
        rw [if_pos c1, if_neg co]
      rw [if_neg c1]
      by_cases cn : pAt l n < 0
      · rw [if_pos cn]
      rw [if_neg cn]
      by_cases c2 : k = 2
      · rw [if_pos c2, if_neg (fun h => ca ⟨by omega, Or.inl h.2, Or.inl h.1⟩)]
      rw [if_neg c2]
      by_cases c3 : k = 3
      · rw [if_pos c3, if_neg (fun h => ca ⟨by omega, Or.inl h.1, Or.inr c3⟩)]
      rw [if_neg c3]
      by_cases c4 : k = 4
      · rw [if_pos c4, if_neg (fun h => ca ⟨by omega, Or.inl h.2, Or.inl h.1⟩)]
      rw [if_neg c4]
  · simp only [c0, if_false]
    apply ev_succ
    simp only [impl_DoAct.j0, if_true]
    exact Ev.now _

theorem spec_l01In_ev (a b c : Int) : Ev (fun _ => spec_l01In.f a b c) (decide (b ≤ a ∧ a ≤ c)) := by
  apply ev_const
  unfold spec_l01In.f
  by_cases h : a ≥ b
  · rw [if_pos h]; simp [show b ≤ a from h]
  · rw [if_neg h]; simp [show ¬ b ≤ a from h]

theorem spec_l03Name_ev (s : ByteArray) : Ev (fun _ => spec_l03Name.f s) (decide (1 ≤ s.size ∧ s.size ≤ 8)) := by
  simp only [spec_l03Name.f]
  refine Ev.bind (spec_l01In_ev _ _ _) ?_
  apply ev_some
  rw [decide_eq_decide]
  omega
theorem spec_DiskOk_l0 (l : List (S66)) (hl : l.length ≤ 1048576) : ∀ (d : Nat) (i : Int), 0 ≤ i → i + d = l.length → Ev (fun k => spec_DiskOk.l0 k i l) (pDiskL (prevN l i) (l.drop i.toNat)) := by
  intro d
  induction d with
  | zero =>
    intro i h0 h
    apply ev_succ
    have c : ¬ i < (l.length : Int) := by omega
    simp only [spec_DiskOk.l0, c, if_false]
    rw [List.drop_of_length_le (by omega)]
    cases prevN l i <;> exact Ev.now _
  | succ d ih =>
    intro i h0 h
    apply ev_succ
    have c : i < (l.length : Int) := by omega
    have e1 : wrap64 (i + 1) = i + 1 := w64 (by omega) (by omega)
    have e2 : wrap64 (i - 1) = i - 1 := w64 (by omega) (by omega)
    have hh := ih (i + 1) (by omega) (by omega)
    rw [prevN_next l i h0] at hh
    rw [drop_file l i h0 c]
    have k3 : i > 0 → 0 ≤ i - 1 ∧ i - 1 < (l.length : Int) := fun _ => by omega
    have hp0 : ¬ i > 0 → prevN l i = none := fun hi => by rw [prevN, if_pos (by omega)]
    have hp1 : i > 0 → prevN l i = some (rd_T66 l (i - 1)).f0 := fun hi => by rw [prevN, if_neg (by omega)]
    simp only [spec_DiskOk.l0, c, h0, if_true, e1, e2]
    generalize rd_T66 l i = f at hh ⊢
    refine Ev.bind (spec_l03Name_ev _) ?_
    by_cases a1 : 1 ≤ f.f0.size ∧ f.f0.size ≤ 8
    · by_cases a2 : (f.f1.size : Int) > 20000
      · simp only [a1, and_self, decide_true, if_true, a2]
        apply ev_some
        rw [pDiskL_bad (by simp [pFile]; omega)]
      · simp only [a1, and_self, decide_true, if_true, a2, if_false]
        refine Ev.bind (spec_l01In_ev _ _ _) ?_
        by_cases a3 : 0 ≤ f.f2 ∧ f.f2 ≤ (f.f1.size : Int)
        · have hf : pFile f = true := by simp [pFile, a1, a3]; omega
          by_cases hi : i > 0
          · simp only [a3, and_self, decide_true, if_true, hi, (k3 hi).1, (k3 hi).2]
            rw [hp1 hi]
            by_cases hb : Op.bytesLess (rd_T66 l (i - 1)).f0.toList f.f0.toList = true
            · simp only [hb, if_true]
              simpa [pDiskL, hf, hb] using hh
            · simp only [hb, if_false]
              apply ev_some
              simp [pDiskL, hb]
          · simp only [a3, and_self, decide_true, if_true, hi, if_false]
            rw [hp0 hi]
            simpa [pDiskL, hf] using hh
        · simp only [a3, decide_false, Bool.false_eq_true, if_false]
          apply ev_some
          rw [pDiskL_bad (by simp only [pFile, a3, decide_false, Bool.and_false])]
    · simp only [a1, decide_false, Bool.false_eq_true, if_false]
      apply ev_some
      rw [pDiskL_bad (by simp only [pFile, a1, decide_false, Bool.false_and])]
theorem spec_DiskOk_ev (l : List (S66)) (hl : l.length ≤ 1048576) : Ev (fun k => spec_DiskOk.f k l) (pDiskOk l) := by
  simp only [spec_DiskOk.f]
  by_cases h : (l.length : Int) > 30
  · simp only [h, if_true]
    apply ev_some
    rw [pDiskOk, decide_eq_false (by omega), Bool.false_and]
  · simp only [h, if_false]
    rw [pDiskOk, decide_eq_true (by omega), Bool.true_and]
    have := spec_DiskOk_l0 l hl l.length 0 (by omega) (by omega)
    simpa [prevN] using this

theorem spec_l03Put_l1 (l : List (S66)) (f : S66) (hl : l.length ≤ 1048576) : ∀ (d : Nat) (i : Int) (acc R : List (S66)), 0 ≤ i → i + d = l.length → (acc.length : Int) ≤ i + 1048577 → acc ++ (l.drop i.toNat).filter (fun x => ltF f x) = R →
    Ev (fun k => spec_l03Put.l1 k i l f.f0 f.f1 f.f2 acc) R := by
  intro d
  induction d with
  | zero =>
    intro i acc R h0 h ha hR
    apply ev_succ
    have c : ¬ i < (l.length : Int) := by omega
    simp only [spec_l03Put.l1, c, if_false]
    rw [List.drop_of_length_le (by omega), List.filter_nil, List.append_nil] at hR
    exact ev_some hR
  | succ d ih =>
    intro i acc R h0 h ha hR
    have c : i < (l.length : Int) := by omega
    have ei : wrap64 (i + 1) = i + 1 := w64 (by omega) (by omega)
    have hc : acc.length < 3518437208883 := by omega
    rw [drop_file l i h0 c, List.filter_cons] at hR
    apply ev_succ
    simp only [spec_l03Put.l1, c, h0, if_true, ei]
    by_cases hq : Op.bytesLess f.f0.toList (rd_T66 l i).f0.toList = true
    · rw [if_pos (show ltF f (rd_T66 l i) = true from hq)] at hR
      simp only [hq, if_true, hc]
      exact ih (i + 1) (acc ++ [rd_T66 l i]) R (by omega) (by omega) (by rw [List.length_append, List.length_singleton]; omega) (by rw [List.append_assoc]; exact hR)
    · rw [if_neg (show ¬ ltF f (rd_T66 l i) = true from hq)] at hR
      simp only [hq, if_false]
      exact ih (i + 1) acc R (by omega) (by omega) (by omega) hR
theorem spec_l03Put_l0 (l : List (S66)) (f : S66) (hl : l.length ≤ 1048576) : ∀ (d : Nat) (i : Int) (acc R : List (S66)), 0 ≤ i → i + d = l.length → (acc.length : Int) ≤ i → (acc ++ (l.drop i.toNat).filter (fun x => ltF x f)) ++ (f :: l.filter (fun x => ltF f x)) = R →
    Ev (fun k => spec_l03Put.l0 k i l f.f0 f.f1 f.f2 acc) R := by
  intro d
  induction d with
  | zero =>
    intro i acc R h0 h ha hR
    apply ev_succ
    have c : ¬ i < (l.length : Int) := by omega
    have hc : acc.length < 3518437208883 := by omega
    simp only [spec_l03Put.l0, c, if_false, hc, if_true]
    rw [List.drop_of_length_le (by omega), List.filter_nil, List.append_nil] at hR
    exact spec_l03Put_l1 l f hl l.length 0 (acc ++ [f]) R (by omega) (by omega) (by rw [List.length_append, List.length_singleton]; omega) (by rw [List.append_assoc]; exact hR)
  | succ d ih =>
    intro i acc R h0 h ha hR
    have c : i < (l.length : Int) := by omega
    have ei : wrap64 (i + 1) = i + 1 := w64 (by omega) (by omega)
    have hc : acc.length < 3518437208883 := by omega
    rw [drop_file l i h0 c, List.filter_cons] at hR
    apply ev_succ
    simp only [spec_l03Put.l0, c, h0, if_true, ei]
    by_cases hq : Op.bytesLess (rd_T66 l i).f0.toList f.f0.toList = true
    · rw [if_pos (show ltF (rd_T66 l i) f = true from hq)] at hR
      simp only [hq, if_true, hc]
      exact ih (i + 1) (acc ++ [rd_T66 l i]) R (by omega) (by omega) (by rw [List.length_append, List.length_singleton]; omega) (by rw [List.append_assoc acc]; exact hR)
    · rw [if_neg (show ¬ ltF (rd_T66 l i) f = true from hq)] at hR
      simp only [hq, if_false]
      exact ih (i + 1) acc R (by omega) (by omega) (by omega) hR
theorem spec_l03Put_ev (l : List (S66)) (f : S66) (hl : l.length ≤ 1048576) : Ev (fun k => spec_l03Put.f k l f.f0 f.f1 f.f2) (pPut l f) := by
  simp only [spec_l03Put.f]
  exact spec_l03Put_l0 l f hl l.length 0 [] _ (by omega) (by omega) (by simp) (by simp [pPut])

theorem spec_l03At_l0 (l : List (S66)) (n : ByteArray) (hl : l.length ≤ 1048576) : ∀ (d i : Nat), i + d = l.length → Ev (fun k => spec_l03At.l0 k n (i : Int) l) (pAtF n (l.drop i) i) := by
  intro d
  induction d with
  | zero =>
    intro i h
    apply ev_succ
    have c : ¬ (i : Int) < (l.length : Int) := by omega
    simp only [spec_l03At.l0, c, if_false]
    rw [List.drop_of_length_le (by omega)]
    exact Ev.now _
  | succ d ih =>
    intro i h
    apply ev_succ
    have c : (i : Int) < (l.length : Int) := by omega
    have c0 : (0 : Int) ≤ (i : Int) := by omega
    have e1 : wrap64 ((i : Int) + 1) = ((i + 1 : Nat) : Int) := w64 (by omega) (by omega)
    have hd := drop_file l i c0 c
    rw [show ((i : Int)).toNat = i by omega, show ((i : Int) + 1).toNat = i + 1 by omega] at hd
    have hh := ih (i + 1) (by omega)
    rw [hd, pAtF_cons]
    by_cases hq : (rd_T66 l (i : Int)).f0.toList = n.toList
    · simp only [spec_l03At.l0, c, c0, hq, if_true, beq_self_eq_true]
      exact Ev.now _
    · have hq2 : ¬ ((rd_T66 l (i : Int)).f0.toList == n.toList) = true := by simpa using hq
      simp only [spec_l03At.l0, c, c0, hq, if_true, if_false, e1]
      rw [if_neg hq2]
      exact hh
theorem spec_l03At_ev (l : List (S66)) (n : ByteArray) (hl : l.length ≤ 1048576) : Ev (fun k => spec_l03At.f k l n) (pAt l n) := by
  simp only [spec_l03At.f]
  exact spec_l03At_l0 l n hl l.length 0 (by omega)

theorem spec_l03Without_l0 (l : List (S66)) (n : ByteArray) (hl : l.length ≤ 1048576) : ∀ (d : Nat) (i : Int) (acc R : List (S66)), 0 ≤ i → i + d = l.length → (acc.length : Int) ≤ i → acc ++ (l.drop i.toNat).filter (keepF n) = R →
    Ev (fun k => spec_l03Without.l0 k n i l acc) R := by
  intro d
  induction d with
  | zero =>
    intro i acc R h0 h ha hR
    apply ev_succ
    have c : ¬ i < (l.length : Int) := by omega
    simp only [spec_l03Without.l0, c, if_false]
    rw [List.drop_of_length_le (by omega), List.filter_nil, List.append_nil] at hR
    exact ev_some hR
  | succ d ih =>
    intro i acc R h0 h ha hR
    apply ev_succ
    have c : i < (l.length : Int) := by omega
    have e1 : wrap64 (i + 1) = i + 1 := w64 (by omega) (by omega)
    have ca : acc.length < 3518437208883 := by omega
    rw [drop_file l i h0 c] at hR
    by_cases hq : (rd_T66 l i).f0.toList = n.toList
    · rw [List.filter_cons_of_neg (by unfold keepF; rw [hq]; simp)] at hR
      simp only [spec_l03Without.l0, c, h0, hq, if_true, e1]
      exact ih (i + 1) acc R (by omega) (by omega) (by omega) hR
    · rw [List.filter_cons_of_pos (by unfold keepF; rw [Bool.not_eq_true', beq_eq_false_iff_ne]; exact hq)] at hR
      simp only [spec_l03Without.l0, c, h0, hq, if_true, if_false, ca, e1]
      refine ih (i + 1) _ R (by omega) (by omega) (by rw [List.length_append]; simp; omega) ?_
      rw [List.append_assoc]
      exact hR
theorem spec_l03Without_ev (l : List (S66)) (n : ByteArray) (hl : l.length ≤ 1048576) : Ev (fun k => spec_l03Without.f k l n) (pWithout l n) := by
  simp only [spec_l03Without.f]
  exact spec_l03Without_l0 l n hl l.length 0 [] _ (by omega) (by omega) (by simp) (by simp [pWithout])
theorem okOutS_ev (l : List (S66)) (hl : l.length ≤ 1048576) : Ev (fun k => (spec_DiskOk.f k l).bind fun t => (if t = true then (some (l, true)) else (some (([] : List (S66)), false)))) (okOut l) := by
  refine Ev.bind (spec_DiskOk_ev l hl) ?_
  unfold okOut
  by_cases c : pDiskOk l = true
  · simp only [c, if_true]; exact Ev.now _
  · simp only [c, if_false]; exact Ev.now _
theorem okOut_bad {l : List (S66)} (h : pDiskOk l = false) : okOut l = ([], false) := by unfold okOut; rw [h]; rfl
theorem spec_DoAct_j1 (l : List (S66)) (at_ k : Int) (n t o : ByteArray) (f : S66) (hd : pDiskOk l = true) (ht : t.size ≤ 1048576) (hft : f.f1.size ≤ 1048576) :
    Ev (fun q => spec_DoAct.j1 q at_ l k n t o f.f0 f.f1 f.f2) (if k = 1 then okOut (pPut l ⟨f.f0, f.f1 ++ t, f.f2⟩) else if at_ < 0 then ([], false) else if k = 2 then okOut (pPut l ⟨f.f0, f.f1, f.f1.size⟩) else if k = 3 then (if ¬ f.f2 < f.f1.size ∧ ¬ o.toList = n.toList then okOut (pPut (pWithout l n) ⟨o, f.f1, f.f2⟩) else ([], false)) else if k = 4 then okOut (pWithout l n) else ([], false)) := by
  obtain ⟨hl, hdl, hp⟩ := pDiskOk_pair hd
  have L := fun g => pPut_len l g
  have LW := pWithout_len l n
  apply ev_succ
  by_cases c1 : k = 1
  · have w := spec_l03Put_ev l ⟨f.f0, f.f1 ++ t, f.f2⟩ (by omega)
    have c : f.f1.size + t.size ≤ 9223372036854775807 := by omega
    simp only [spec_DoAct.j1, c1, if_true, c]
    exact Ev.bind w (okOutS_ev _ (by have := L ⟨f.f0, f.f1 ++ t, f.f2⟩; omega))
  by_cases ca : at_ < 0
  · simp only [spec_DoAct.j1, c1, ca, if_true, if_false]
    exact Ev.now _
  by_cases c2 : k = 2
  · have w := spec_l03Put_ev l ⟨f.f0, f.f1, f.f1.size⟩ (by omega)
    have c1' : ¬ (2 : Int) = 1 := by decide
    simp only [spec_DoAct.j1, c2, c1', ca, if_true, if_false]
    exact Ev.bind w (okOutS_ev _ (by have := L ⟨f.f0, f.f1, f.f1.size⟩; omega))
  by_cases c3 : k = 3
  · have c1' : ¬ (3 : Int) = 1 := by decide
    have c2' : ¬ (3 : Int) = 2 := by decide
    simp only [spec_DoAct.j1, c3, c1', c2', ca, if_true, if_false]
    by_cases d1 : f.f2 < f.f1.size
    · simp only [d1, if_true, not_true, false_and, if_false]
      apply ev_succ
      simp only [spec_DoAct.j2, if_true]
      exact Ev.now _
    · simp only [d1, if_false, not_false_eq_true, true_and]
      by_cases d2 : o.toList = n.toList
      · simp only [d2, if_true, not_true, if_false]
        apply ev_succ
        simp only [spec_DoAct.j2, if_true]
        exact Ev.now _
      · simp only [d2, if_false, not_false_eq_true, if_true]
        refine Ev.bind (spec_l03Name_ev o) ?_
        apply ev_succ
        by_cases d3 : 1 ≤ o.size ∧ o.size ≤ 8
        · simp only [spec_DoAct.j2, decide_eq_true d3, Bool.not_true, Bool.false_eq_true, if_false]
          refine Ev.bind (spec_l03Without_ev l n (by omega)) ?_
          exact Ev.bind (spec_l03Put_ev (pWithout l n) ⟨o, f.f1, f.f2⟩ (by omega)) (okOutS_ev _ (by have := pPut_len (pWithout l n) ⟨o, f.f1, f.f2⟩; omega))
        · simp only [spec_DoAct.j2, decide_eq_false d3, Bool.not_false, if_true]
          rw [okOut_bad (pDiskOk_bad (pPut_mem _ _) (pFile_name (by exact d3)))]
          exact Ev.now _
  by_cases c4 : k = 4
  · have c1' : ¬ (4 : Int) = 1 := by decide
    have c2' : ¬ (4 : Int) = 2 := by decide
    have c3' : ¬ (4 : Int) = 3 := by decide
    simp only [spec_DoAct.j1, c4, c1', c2', c3', ca, if_true, if_false]
    exact Ev.bind (spec_l03Without_ev l n (by omega)) (okOutS_ev _ (by omega))
  · simp only [spec_DoAct.j1, c1, c2, c3, c4, ca, if_false]
    exact Ev.now _
theorem spec_DoAct_j0 (b : Bool) (l : List (S66)) (k : Int) (n t o : ByteArray) (hd : pDiskOk l = true) (ht : t.size ≤ 1048576) (hn : 1 ≤ n.size ∧ n.size ≤ 8) (hb : b = decide (¬ (k = 3 ∨ o.toList = []) ∨ ¬ (k = 1 ∨ t.toList = []))) :
    Ev (fun q => spec_DoAct.j0 q b l k n t o) (pDoAct l k n t o) := by
  obtain ⟨hl, hdl, hp⟩ := pDiskOk_pair hd
  apply ev_succ
  unfold pDoAct
  rw [if_pos hd]
  by_cases cb : ¬ (k = 3 ∨ o.toList = []) ∨ ¬ (k = 1 ∨ t.toList = [])
  · rw [decide_eq_true cb] at hb
    simp only [spec_DoAct.j0, hb, if_true]
    refine ev_some ?_
    by_cases c1 : k = 1
    · rw [if_pos c1, if_neg (fun h => by rcases cb with h2 | h2; exact h2 (Or.inr h); exact h2 (Or.inl c1))]
    rw [if_neg c1]
    by_cases cn : pAt l n < 0
    · rw [if_pos cn]
    rw [if_neg cn]
    by_cases c2 : k = 2
    · rw [if_pos c2, if_neg (fun h => by rcases cb with h2 | h2; exact h2 (Or.inr h.1); exact h2 (Or.inr h.2))]
    rw [if_neg c2]
    by_cases c3 : k = 3
    · rw [if_pos c3, if_neg (fun h => by rcases cb with h2 | h2; exact h2 (Or.inl c3); exact h2 (Or.inr h.1))]
    rw [if_neg c3]
    by_cases c4 : k = 4
    · rw [if_pos c4, if_neg (fun h => by rcases cb with h2 | h2; exact h2 (Or.inr h.1); exact h2 (Or.inr h.2))]
    rw [if_neg c4]
  · rw [decide_eq_false cb] at hb
    have ko : k = 3 ∨ o.toList = [] := Classical.not_not.1 (fun h => cb (Or.inl h))
    have kt : k = 1 ∨ t.toList = [] := Classical.not_not.1 (fun h => cb (Or.inr h))
    simp only [spec_DoAct.j0, hb, Bool.false_eq_true, if_false]
    refine Ev.bind (spec_l03At_ev l n (by omega)) ?_
    have hf1 := pOf_f1 l n hd
    have J := spec_DoAct_j1 l (pAt l n) k n t o (pOf l n) hd ht hf1
    have key : (if k = 1 then okOut (pPut l ⟨(pOf l n).f0, (pOf l n).f1 ++ t, (pOf l n).f2⟩) else if pAt l n < 0 then ([], false) else if k = 2 then okOut (pPut l ⟨(pOf l n).f0, (pOf l n).f1, (pOf l n).f1.size⟩) else if k = 3 then (if ¬ (pOf l n).f2 < (pOf l n).f1.size ∧ ¬ o.toList = n.toList then okOut (pPut (pWithout l n) ⟨o, (pOf l n).f1, (pOf l n).f2⟩) else ([], false)) else if k = 4 then okOut (pWithout l n) else ([], false)) =
        (if k = 1 then (if o.toList = [] then okOut (pPut l ⟨(pOf l n).f0, (pOf l n).f1 ++ t, (pOf l n).f2⟩) else ([], false)) else if pAt l n < 0 then ([], false) else if k = 2 then (if o.toList = [] ∧ t.toList = [] then okOut (pPut l ⟨(pOf l n).f0, (pOf l n).f1, (pOf l n).f1.size⟩) else ([], false)) else if k = 3 then (if t.toList = [] ∧ (pOf l n).f2 = (pOf l n).f1.size ∧ ¬ o.toList = n.toList then okOut (pPut (pWithout l n) ⟨o, (pOf l n).f1, (pOf l n).f2⟩) else ([], false)) else if k = 4 then (if o.toList = [] ∧ t.toList = [] then okOut (pWithout l n) else ([], false)) else ([], false)) := by
      by_cases c1 : k = 1
      · have co : o.toList = [] := by rcases ko with h | h; omega; exact h
        rw [if_pos c1, if_pos c1, if_pos co]
      have ct : t.toList = [] := by rcases kt with h | h; exact absurd h c1; exact h
      rw [if_neg c1, if_neg c1]
      by_cases cn : pAt l n < 0
      · rw [if_pos cn, if_pos cn]
      rw [if_neg cn, if_neg cn]
      by_cases c2 : k = 2
      · have co : o.toList = [] := by rcases ko with h | h; omega; exact h
        rw [if_pos c2, if_pos c2, if_pos ⟨co, ct⟩]
      rw [if_neg c2, if_neg c2]
      by_cases c3 : k = 3
      · rw [if_pos c3, if_pos c3]
        have h2 := pAt_get l n cn
        have e : pOf l n = rd_T66 l (pAt l n) := by unfold pOf; rw [if_neg cn]
        have hk := (pDiskOk_files hd).2 _ (rd_mem l _ h2.1 h2.2)
        rw [← e] at hk
        have hi : ¬ (pOf l n).f2 < (pOf l n).f1.size ↔ (pOf l n).f2 = (pOf l n).f1.size := by omega
        simp only [ct, true_and, hi]
      rw [if_neg c3, if_neg c3]
      by_cases c4 : k = 4
      · have co : o.toList = [] := by rcases ko with h | h; omega; exact h
        rw [if_pos c4, if_pos c4, if_pos ⟨co, ct⟩]
      rw [if_neg c4, if_neg c4]
    rw [← key]
    by_cases cn : pAt l n < 0
    · have e : pOf l n = ⟨n, ⟨#[]⟩, 0⟩ := by unfold pOf; rw [if_pos cn]
      have cn2 : ¬ pAt l n ≥ 0 := by omega
      rw [e] at J ⊢
      simp only [cn2, if_false]
      exact J
    · have e : pOf l n = rd_T66 l (pAt l n) := by unfold pOf; rw [if_neg cn]
      have h2 := pAt_get l n cn
      have cn2 : pAt l n ≥ 0 := h2.1
      rw [e] at J ⊢
      simp only [cn2, h2.1, h2.2, if_true]
      exact J
theorem pDoAct_badname (l : List (S66)) (k : Int) (n t o : ByteArray) (hd : pDiskOk l = true) (hn : ¬ (1 ≤ n.size ∧ n.size ≤ 8)) : pDoAct l k n t o = ([], false) := by
  have cn : pAt l n < 0 := by
    refine Classical.not_not.1 (fun h => hn ?_)
    have h2 := pAt_get l n h
    have hk := (pDiskOk_files hd).2 _ (rd_mem l _ h2.1 h2.2)
    have e : (rd_T66 l (pAt l n)).f0 = n := toList_iff.1 (pAt_name l n h)
    rw [e] at hk
    exact hk.1
  have e : pOf l n = ⟨n, ⟨#[]⟩, 0⟩ := by unfold pOf; rw [if_pos cn]
  unfold pDoAct
  rw [if_pos hd, if_pos cn, e]
  by_cases c1 : k = 1
  · rw [if_pos c1]
    split
    · exact okOut_bad (pDiskOk_bad (pPut_mem _ _) (pFile_name (by exact hn)))
    · rfl
  · rw [if_neg c1]
theorem spec_DoAct_ev (l : List (S66)) (k : Int) (n t o : ByteArray) (hl : l.length ≤ 1048576) (ht : t.size ≤ 1048576) : Ev (fun q => spec_DoAct.f q l k n t o) (pDoAct l k n t o) := by
  simp only [spec_DoAct.f]
  refine Ev.bind (spec_DiskOk_ev l hl) ?_
  by_cases c0 : pDiskOk l = true
  · simp only [c0, if_true]
    refine Ev.bind (spec_l03Name_ev n) ?_
    by_cases cn : 1 ≤ n.size ∧ n.size ≤ 8
    · have J := fun b hb => spec_DoAct_j0 b l k n t o c0 ht cn hb
      simp only [decide_eq_true cn, if_true]
      by_cases c3 : k = 3
      · have c1' : ¬ k = 1 := by omega
        simp only [c3, if_true, show ¬ (3 : Int) = 1 by decide, if_false]
        rw [c3] at J
        refine J _ ?_
        by_cases ct : t.toList = [] <;> simp [ct]
      · by_cases co : o.toList = []
        · by_cases c1 : k = 1
          · rw [c1] at J
            simp only [c1, co, show ¬ (1 : Int) = 3 by decide, if_true, if_false]
            refine J _ ?_
            simp [co]
          · simp only [c3, c1, co, if_true, if_false]
            refine J _ ?_
            by_cases ct : t.toList = [] <;> simp [ct, co, c1]
        · simp only [c3, co, if_false]
          refine J _ ?_
          simp [co, c3]
    · simp only [decide_eq_false cn, Bool.false_eq_true, if_false]
      apply ev_succ
      simp only [spec_DoAct.j0, if_true]
      exact ev_some (pDoAct_badname l k n t o c0 cn).symm
  · simp only [c0, if_false]
    apply ev_succ
    simp only [spec_DoAct.j0, if_true]
    unfold pDoAct
    rw [if_neg c0]
    exact Ev.now _

def pActs : List (S66) → List (S35) → Int → List (S66) × Int
  | l, [], i => (l, i)
  | l, a :: r, i => if (pDoAct l a.f0 a.f1 a.f2 a.f3).2 = true then pActs (pDoAct l a.f0 a.f1 a.f2 a.f3).1 r (i + 1) else (l, i)
theorem pActs_len : ∀ (ac : List (S35)) (l : List (S66)) (i : Int), l.length ≤ 1048576 → (pActs l ac i).1.length ≤ 1048576
  | [], _, _, h => h
  | a :: r, l, i, h => by
    rw [pActs]
    split
    · exact pActs_len r _ _ (by have := pDoAct_len l a.f0 a.f1 a.f2 a.f3; omega)
    · exact h
theorem act_mem (ac : List (S35)) (i : Int) (h0 : 0 ≤ i) (c : i < (ac.length : Int)) : rd_T35 ac i ∈ ac := by
  have hlt : i.toNat < ac.length := by omega
  unfold rd_T35
  rw [List.getD_eq_getElem?_getD, List.getElem?_eq_getElem hlt]
  exact List.getElem_mem hlt
theorem impl_DoActs_l0 (ac : List (S35)) (ha : ac.length ≤ 1048576) (ht : ∀ a ∈ ac, a.f2.size ≤ 1048576) : ∀ (d : Nat) (i : Int) (l : List (S66)), 0 ≤ i → i + d = ac.length → l.length ≤ 1048576 →
    Ev (fun k => impl_DoActs.l0 k ac ac (ac.length : Int) i l) (pActs l (ac.drop i.toNat) i) := by
  intro d
  induction d with
  | zero =>
    intro i l h0 h hl
    apply ev_succ
    have c : ¬ i < (ac.length : Int) := by omega
    have e : (ac.length : Int) = i := by omega
    rw [List.drop_of_length_le (by omega)]
    simp only [impl_DoActs.l0, c, if_false]
    rw [e]
    exact Ev.now _
  | succ d ih =>
    intro i l h0 h hl
    apply ev_succ
    have c : i < (ac.length : Int) := by omega
    have e1 : wrap64 (i + 1) = i + 1 := w64 (by omega) (by omega)
    have hm := ht _ (act_mem ac i h0 c)
    have hd : ac.drop i.toNat = rd_T35 ac i :: ac.drop (i + 1).toNat := drop_get ac i h0 c z35
    have q0 : 0 ≤ i + 1 := by omega
    have q1 : i + 1 + d = ac.length := by omega
    rw [hd]
    simp only [impl_DoActs.l0, c, h0, if_true, e1]
    generalize rd_T35 ac i = a at hm ⊢
    have hpl := pDoAct_len l a.f0 a.f1 a.f2 a.f3
    refine Ev.bind (impl_DoAct_ev l a.f0 a.f1 a.f2 a.f3 hl hm) ?_
    rw [pActs]
    by_cases hb : (pDoAct l a.f0 a.f1 a.f2 a.f3).2 = true
    · simp only [hb, if_true]
      exact ih (i + 1) _ q0 q1 (by omega)
    · simp only [hb, if_false]
      exact Ev.now _
theorem impl_DoActs_ev (l : List (S66)) (ac : List (S35)) (hl : l.length ≤ 1048576) (ha : ac.length ≤ 1048576) (ht : ∀ a ∈ ac, a.f2.size ≤ 1048576) : Ev (fun k => impl_DoActs.f k l ac) (pActs l ac 0) := by
  simp only [impl_DoActs.f]
  have h : l.length < 3518437208883 := by omega
  have e0 : (0 : Nat) + l.length = l.length := by omega
  simp only [h, if_true, impl_copyDisk.f, Option.bind_some, List.length_nil, List.nil_append, e0]
  exact impl_DoActs_l0 ac ha ht ac.length 0 l (by omega) (by omega) hl
theorem spec_DoActs_l0 (ac : List (S35)) (ha : ac.length ≤ 1048576) (ht : ∀ a ∈ ac, a.f2.size ≤ 1048576) : ∀ (d : Nat) (i : Int) (l : List (S66)), 0 ≤ i → i + d = ac.length → l.length ≤ 1048576 →
    Ev (fun k => spec_DoActs.l0 k ac i l) (pActs l (ac.drop i.toNat) i) := by
  intro d
  induction d with
  | zero =>
    intro i l h0 h hl
    apply ev_succ
    have c : ¬ i < (ac.length : Int) := by omega
    have e : (ac.length : Int) = i := by omega
    rw [List.drop_of_length_le (by omega)]
    simp only [spec_DoActs.l0, c, if_false]
    rw [e]
    exact Ev.now _
  | succ d ih =>
    intro i l h0 h hl
    apply ev_succ
    have c : i < (ac.length : Int) := by omega
    have e1 : wrap64 (i + 1) = i + 1 := w64 (by omega) (by omega)
    have hm := ht _ (act_mem ac i h0 c)
    have hd : ac.drop i.toNat = rd_T35 ac i :: ac.drop (i + 1).toNat := drop_get ac i h0 c z35
    have q0 : 0 ≤ i + 1 := by omega
    have q1 : i + 1 + d = ac.length := by omega
    rw [hd]
    simp only [spec_DoActs.l0, c, h0, if_true, e1]
    generalize rd_T35 ac i = a at hm ⊢
    have hpl := pDoAct_len l a.f0 a.f1 a.f2 a.f3
    refine Ev.bind (spec_DoAct_ev l a.f0 a.f1 a.f2 a.f3 hl hm) ?_
    rw [pActs]
    by_cases hb : (pDoAct l a.f0 a.f1 a.f2 a.f3).2 = true
    · simp only [hb, if_true]
      exact ih (i + 1) _ q0 q1 (by omega)
    · simp only [hb, if_false]
      exact Ev.now _
theorem spec_DoActs_ev (l : List (S66)) (ac : List (S35)) (hl : l.length ≤ 1048576) (ha : ac.length ≤ 1048576) (ht : ∀ a ∈ ac, a.f2.size ≤ 1048576) : Ev (fun k => spec_DoActs.f k l ac) (pActs l ac 0) := by
  simp only [spec_DoActs.f]
  have h : l.length < 3518437208883 := by omega
  have e0 : (0 : Nat) + l.length = l.length := by omega
  simp only [h, if_true, Option.bind_some, List.length_nil, List.nil_append, e0]
  exact spec_DoActs_l0 ac ha ht ac.length 0 l (by omega) (by omega) hl

def loseN (f : S66) (left : List Int) (i : Int) : Int := if i < left.length then mx f.f2 (mn (rd left i) (f.f1.size : Int)) else f.f2
def loseF (f : S66) (n : Int) : S66 := ⟨f.f0, f.f1.extract 0 n.toNat, n⟩
def pLoseL (left : List Int) : Int → List (S66) → List (S66)
  | _, [] => []
  | i, f :: l => loseF f (loseN f left i) :: pLoseL left (i + 1) l
def pLose (l : List (S66)) (left : List Int) : List (S66) × Bool := if pDiskOk l = true then (pLoseL left 0 l, true) else ([], false)
theorem pLose_yes {l : List (S66)} {left : List Int} (h : pDiskOk l = true) : pLose l left = (pLoseL left 0 l, true) := if_pos h
theorem pLose_no {l : List (S66)} {left : List Int} (h : ¬ pDiskOk l = true) : pLose l left = ([], false) := if_neg h
theorem pLoseL_len (left : List Int) (l : List (S66)) : ∀ i, (pLoseL left i l).length = l.length := by
  induction l with
  | nil => intro i; rfl
  | cons f l ih => intro i; simp [pLoseL, ih]
theorem pLose_len (l : List (S66)) (left : List Int) : (pLose l left).1.length ≤ l.length := by
  unfold pLose
  split
  · simp only [pLoseL_len]; exact Nat.le_refl _
  · simp
theorem pLoseL_get (left : List Int) (l : List (S66)) : ∀ (j : Int) (i : Nat) (f : S66), l[i]? = some f → (pLoseL left j l)[i]? = some (loseF f (loseN f left (j + i))) := by
  induction l with
  | nil => intro j i f h; simp at h
  | cons g l ih =>
    intro j i f h
    cases i with
    | zero =>
      simp only [List.getElem?_cons_zero, Option.some.injEq] at h
      subst h
      simp [pLoseL]
    | succ i =>
      simp only [List.getElem?_cons_succ] at h
      simp only [pLoseL, List.getElem?_cons_succ]
      rw [ih (j + 1) i f h, show j + 1 + (i : Int) = j + ((i + 1 : Nat) : Int) by omega]
theorem rdf_mem (l : List (S66)) (i : Int) (h0 : 0 ≤ i) (h1 : i < l.length) : rd_T66 l i ∈ l := by
  unfold rd_T66
  rw [List.getD_eq_getElem?_getD, List.getElem?_eq_getElem (show i.toNat < l.length by omega)]
  exact List.getElem_mem _
theorem lose_in (a b c : Int) (h0 : 0 ≤ a) (h1 : a ≤ b) : 0 ≤ mx a (mn c b) ∧ mx a (mn c b) ≤ b := by
  unfold mx mn
  constructor <;> split <;> split <;> omega
theorem impl_LoseDisk_ev (l : List (S66)) (left : List Int) (hl : l.length ≤ 1048576) : Ev (fun k => impl_LoseDisk.f k l left) (pLose l left) := by
  simp only [impl_LoseDisk.f]
  refine Ev.bind (impl_DiskOk_ev l hl) ?_
  by_cases h : pDiskOk l = true
  · have hf := (pDiskOk_files h).2
    have e0 : 0 + l.length < 3518437208883 := by omega
    simp only [h, if_true, impl_copyDisk.f, Option.bind_some, List.length_nil, List.nil_append, e0]
    rw [pLose_yes h]
    have key := loop_up (fun k (s : List (S66)) i => impl_LoseDisk.l0 k left l (l.length : Int) i s) (l.length : Int) (pLoseL left 0 l, true)
      (fun s i => s.length = l.length ∧ s.take i.toNat = (pLoseL left 0 l).take i.toNat)
      (fun s hs => by
        obtain ⟨hb, ht⟩ := hs
        have c : ¬ (l.length : Int) < (l.length : Int) := by omega
        simp only [impl_LoseDisk.l0, c, if_false]
        apply ev_some
        rw [List.take_of_length_le (by omega), List.take_of_length_le (by rw [pLoseL_len]; omega)] at ht
        rw [ht])
      (fun s i h0 h1 hs ih => by
        obtain ⟨hb, ht⟩ := hs
        have c2 : i < (s.length : Int) := by omega
        have ei : wrap64 (i + 1) = i + 1 := w64 (by omega) (by omega)
        have hm := hf _ (rdf_mem l i h0 h1)
        have n0 := hm.2.2.1
        have n1 := hm.2.2.2
        have hn := ih (s.set i.toNat (loseF (rd_T66 l i) (loseN (rd_T66 l i) left i))) ⟨by simp [hb], by
          rw [show (i + 1).toNat = i.toNat + 1 by omega]
          refine take_set (pLoseL left 0 l) s i.toNat _ (by rw [pLoseL_len]; exact hb) (by rw [pLoseL_len]; omega) ht ?_
          rw [pLoseL_get left l 0 i.toNat (rd_T66 l i) (getElem_rd l i h0 h1 z66), show (0 : Int) + ((i.toNat : Nat) : Int) = i by omega]⟩
        simp only [impl_LoseDisk.l0, h1, h0, c2, if_true, ei]
        by_cases hc : i < (left.length : Int)
        · have m := lose_in _ _ (rd left i) n0 n1
          simp only [hc, if_true, m.1, m.2]
          rw [loseN, if_pos hc, loseF] at hn
          exact hn
        · simp only [hc, if_false, n0, n1, if_true]
          rw [loseN, if_neg hc, loseF] at hn
          exact hn)
    exact key l.length 0 l (by omega) (by omega) ⟨rfl, by simp⟩
  · rw [pLose_no h]
    simp only [h, if_false]
    exact Ev.now _

theorem spec_LoseDisk_j1 (l out : List (S66)) (left : List Int) (i n N : Int) (f : S66) (R : List (S66) × Bool) (k0 : 0 ≤ f.f2) (ks : f.f2 ≤ (f.f1.size : Int)) (ho : out.length < 3518437208883) (ei : wrap64 (i + 1) = i + 1)
    (hN : N = mx f.f2 (mn n (f.f1.size : Int))) (hnext : Ev (fun k => spec_LoseDisk.l0 k left (i + 1) l (out ++ [loseF f N])) R) :
    Ev (fun k => spec_LoseDisk.j1 k left i n l out f.f0 f.f1 f.f2) R := by
  apply ev_succ
  simp only [spec_LoseDisk.j1, ho, ei, if_true]
  rw [loseF] at hnext
  by_cases a : n > (f.f1.size : Int)
  · have b : ¬ (f.f1.size : Int) < f.f2 := by omega
    have z : (0 : Int) ≤ (f.f1.size : Int) := by omega
    have z2 : (f.f1.size : Int) ≤ (f.f1.size : Int) := Int.le_refl _
    have e : N = (f.f1.size : Int) := by rw [hN]; unfold mx mn; split <;> split <;> omega
    rw [e] at hnext
    simp only [a, b, z, z2, if_true, if_false]
    exact hnext
  · by_cases b : n < f.f2
    · have e : N = f.f2 := by rw [hN]; unfold mx mn; split <;> split <;> omega
      rw [e] at hnext
      simp only [a, b, k0, ks, if_true, if_false]
      exact hnext
    · have e : N = n := by rw [hN]; unfold mx mn; split <;> split <;> omega
      have z : 0 ≤ n := by omega
      rw [e] at hnext
      simp only [a, b, z, if_true, if_false]
      exact hnext
theorem spec_LoseDisk_l0 (l : List (S66)) (left : List Int) (hl : l.length ≤ 1048576) (hf : ∀ f ∈ l, 0 ≤ f.f2 ∧ f.f2 ≤ (f.f1.size : Int)) : ∀ (d : Nat) (i : Int) (out R : List (S66)), 0 ≤ i → i + d = l.length → (out.length : Int) ≤ i → out ++ pLoseL left i (l.drop i.toNat) = R →
    Ev (fun k => spec_LoseDisk.l0 k left i l out) (R, true) := by
  intro d
  induction d with
  | zero =>
    intro i out R h0 h ho hR
    apply ev_succ
    have c : ¬ i < (l.length : Int) := by omega
    simp only [spec_LoseDisk.l0, c, if_false]
    rw [List.drop_of_length_le (by omega), pLoseL, List.append_nil] at hR
    rw [hR]
    exact Ev.now _
  | succ d ih =>
    intro i out R h0 h ho hR
    apply ev_succ
    have c : i < (l.length : Int) := by omega
    have ei : wrap64 (i + 1) = i + 1 := w64 (by omega) (by omega)
    have hm := hf _ (rdf_mem l i h0 c)
    rw [drop_file l i h0 c, pLoseL] at hR
    have hn := ih (i + 1) (out ++ [loseF (rd_T66 l i) (loseN (rd_T66 l i) left i)]) R (by omega) (by omega) (by rw [List.length_append, List.length_singleton]; omega) (by rw [List.append_assoc]; exact hR)
    simp only [spec_LoseDisk.l0, c, h0, if_true]
    by_cases hc : i < (left.length : Int)
    · simp only [hc, if_true]
      refine spec_LoseDisk_j1 l out left i _ _ (rd_T66 l i) _ hm.1 hm.2 (by omega) ei ?_ hn
      rw [loseN, if_pos hc]
    · simp only [hc, if_false]
      refine spec_LoseDisk_j1 l out left i _ _ (rd_T66 l i) _ hm.1 hm.2 (by omega) ei ?_ hn
      rw [loseN, if_neg hc]
      obtain ⟨x, hx⟩ : ∃ x, (rd_T66 l i).f2 = x := ⟨_, rfl⟩
      obtain ⟨y, hy⟩ : ∃ y, ((rd_T66 l i).f1.size : Int) = y := ⟨_, rfl⟩
      rw [hx, hy] at hm
      rw [hx, hy]
      unfold mx mn
      split <;> split <;> omega
theorem spec_LoseDisk_ev (l : List (S66)) (left : List Int) (hl : l.length ≤ 1048576) : Ev (fun k => spec_LoseDisk.f k l left) (pLose l left) := by
  simp only [spec_LoseDisk.f]
  refine Ev.bind (spec_DiskOk_ev l hl) ?_
  by_cases h : pDiskOk l = true
  · have hf := (pDiskOk_files h).2
    simp only [h, if_true]
    rw [pLose_yes h]
    exact spec_LoseDisk_l0 l left hl (fun f hm => (hf f hm).2.2) l.length 0 [] _ (by omega) (by omega) (by simp) (by simp)
  · rw [pLose_no h]
    simp only [h, if_false]
    exact Ev.now _

def pCut (l : List (S66)) (ac : List (S35)) (w : Int) (left : List Int) : List (S66) × Bool :=
  if 0 ≤ w ∧ w ≤ (ac.length : Int) then (if (pActs l (ac.take w.toNat) 0).2 < w then ([], false) else pLose (pActs l (ac.take w.toNat) 0).1 left) else ([], false)
theorem pCut_len (l : List (S66)) (ac : List (S35)) (w : Int) (left : List Int) (hl : l.length ≤ 1048576) : (pCut l ac w left).1.length ≤ 1048576 := by
  unfold pCut
  split
  · split
    · show ([] : List (S66)).length ≤ _
      rw [List.length_nil]; omega
    · have h1 := pActs_len (ac.take w.toNat) l 0 hl
      have h2 := pLose_len (pActs l (ac.take w.toNat) 0).1 left
      omega
  · show ([] : List (S66)).length ≤ _
    rw [List.length_nil]; omega
theorem impl_CutActs_ev (l : List (S66)) (ac : List (S35)) (w : Int) (left : List Int) (hl : l.length ≤ 1048576) (ha : ac.length ≤ 1048576) (ht : ∀ a ∈ ac, a.f2.size ≤ 1048576) : Ev (fun k => impl_CutActs.f k l ac w left) (pCut l ac w left) := by
  simp only [impl_CutActs.f]
  refine Ev.bind (impl_within_ev _ _ _) ?_
  unfold pCut
  by_cases c : 0 ≤ w ∧ w ≤ (ac.length : Int)
  · rw [if_pos c]
    simp only [c.1, c.2, and_self, decide_true, if_true]
    have hta : (ac.take w.toNat).length ≤ 1048576 := by rw [List.length_take]; omega
    have hpl := pActs_len (ac.take w.toNat) l 0 hl
    refine Ev.bind (impl_DoActs_ev l (ac.take w.toNat) hl hta (fun a hx => ht a (List.mem_of_mem_take hx))) ?_
    by_cases d : (pActs l (ac.take w.toNat) 0).2 < w
    · simp only [d, if_true]
      exact Ev.now _
    · simp only [d, if_false]
      refine Ev.bind (impl_LoseDisk_ev _ left hpl) ?_
      exact Ev.now _
  · rw [if_neg c]
    simp only [c, decide_false, Bool.false_eq_true, if_false]
    exact Ev.now _
theorem spec_CutActs_ev (l : List (S66)) (ac : List (S35)) (w : Int) (left : List Int) (hl : l.length ≤ 1048576) (ha : ac.length ≤ 1048576) (ht : ∀ a ∈ ac, a.f2.size ≤ 1048576) : Ev (fun k => spec_CutActs.f k l ac w left) (pCut l ac w left) := by
  simp only [spec_CutActs.f]
  refine Ev.bind (spec_l01In_ev _ _ _) ?_
  unfold pCut
  by_cases c : 0 ≤ w ∧ w ≤ (ac.length : Int)
  · rw [if_pos c]
    simp only [c.1, c.2, and_self, decide_true, if_true]
    have hta : (ac.take w.toNat).length ≤ 1048576 := by rw [List.length_take]; omega
    have hpl := pActs_len (ac.take w.toNat) l 0 hl
    refine Ev.bind (spec_DoActs_ev l (ac.take w.toNat) hl hta (fun a hx => ht a (List.mem_of_mem_take hx))) ?_
    by_cases d : (pActs l (ac.take w.toNat) 0).2 < w
    · simp only [d, if_true]
      exact Ev.now _
    · simp only [d, if_false]
      refine Ev.bind (spec_LoseDisk_ev _ left hpl) ?_
      exact Ev.now _
  · rw [if_neg c]
    simp only [c, decide_false, Bool.false_eq_true, if_false]
    exact Ev.now _

theorem laws_markText_l0 (n : Nat) : ∀ s : ByteArray, s.size + n ≤ 140737488355328 → Ev (fun k => laws_markText.l0 k (n : Int) s) (decF n s) := by
  induction n using Nat.strongRecOn with
  | ind n ih =>
    intro s hs
    apply ev_succ
    by_cases hn : n = 0
    · subst hn
      have c : ¬ ((0 : Nat) : Int) > 0 := by omega
      have c2 : 1 + s.size ≤ 9223372036854775807 := by omega
      simp only [laws_markText.l0, c, c2, if_true, if_false]
      rw [decF_zero]
      exact Ev.now _
    · have c : (n : Int) > 0 := by omega
      have e1 : wrap64 (48 + Int.tmod (n : Int) 10) % 256 = ((48 + n % 10 : Nat) : Int) := by
        rw [Int.tmod_eq_emod_of_nonneg (by omega), w64 (by omega) (by omega)]; omega
      have e2 : wrap64 (Int.tdiv (n : Int) 10) = ((n / 10 : Nat) : Int) := by
        rw [Int.tdiv_eq_ediv_of_nonneg (by omega), w64 (by omega) (by omega)]; omega
      have c2 : (strOfNums [((48 + n % 10 : Nat) : Int)]).size + s.size ≤ 9223372036854775807 := by rw [str_len]; simp; omega
      simp only [laws_markText.l0, c, if_true, e1, e2, Option.bind_some, c2]
      rw [decF_more hn]
      refine ih (n / 10) (by omega) _ ?_
      rw [size_app, str_len]; simp; omega
theorem laws_markText_ev (k : Int) (h : k ≤ 140737488355328) : Ev (fun n => laws_markText.f n k) (markT k) := by
  simp only [laws_markText.f]
  by_cases c : k ≤ 0
  · simp only [c, if_true]
    rw [markT, if_pos c]
    exact Ev.now _
  · simp only [c, if_false]
    rw [markT, if_neg c]
    obtain ⟨n, rfl⟩ := Int.eq_ofNat_of_zero_le (show 0 ≤ k by omega)
    have := laws_markText_l0 n ⟨#[]⟩ (by simp [ByteArray.size]; omega)
    simpa using this

def mkFile (a : Int) : Nat → List (S66)
  | 0 => []
  | n + 1 => ⟨markT (a), markT (a + 1), a + 1 + 1⟩ :: mkFile (a + 1 + 1 + 1) n
theorem mkFile_len (a : Int) (n : Nat) : (mkFile a n).length = n := by
  induction n generalizing a with
  | zero => rfl
  | succ n ih => simp [mkFile, ih]
theorem mkFile_get (a : Int) (n i : Nat) (h : i < n) : (mkFile a n)[i]? = some ⟨markT ((a + 3 * (i : Int))), markT ((a + 3 * (i : Int)) + 1), (a + 3 * (i : Int)) + 1 + 1⟩ := by
  induction n generalizing a i with
  | zero => omega
  | succ n ih =>
    cases i with
    | zero => simp [mkFile]
    | succ i =>
      simp only [mkFile, List.getElem?_cons_succ]
      rw [ih _ _ (by omega)]
      rw [show (a + 1 + 1 + 1) + 3 * (i : Int) = a + 3 * ((i + 1 : Nat) : Int) by omega]
theorem laws_markFileS_ev (l : List (S66)) (a : Int) (ha : 0 ≤ a) (hb : a ≤ 70368744177664) (hl : l.length ≤ 1099511627776) : Ev (fun k => laws_markFileS.f k l a) (a + 3 * l.length, mkFile a l.length) := by
  simp only [laws_markFileS.f]
  have key := loop_up (fun k (s : List (S66) × Int) i => laws_markFileS.l0 k s.1 s.2 i) (l.length : Int) (a + 3 * l.length, mkFile a l.length)
    (fun s i => s.1.length = l.length ∧ s.2 = a + 3 * i ∧ s.1.take i.toNat = (mkFile a l.length).take i.toNat)
    (fun s hs => by
      obtain ⟨b, x⟩ := s
      obtain ⟨hb, rfl, ht⟩ := hs
      simp only at hb ht ⊢
      have c : ¬ (l.length : Int) < (b.length : Int) := by omega
      simp only [laws_markFileS.l0, c, if_false]
      apply ev_some
      rw [List.take_of_length_le (by omega), List.take_of_length_le (by rw [mkFile_len]; omega)] at ht
      rw [ht])
    (fun s i h0 h1 hs ih => by
      obtain ⟨b, x⟩ := s
      obtain ⟨hb, rfl, ht⟩ := hs
      simp only at hb ht ⊢
      have h1' : i < (b.length : Int) := by omega
      have hr : ∀ v, rd_T66 (b.set i.toNat v) i = v := fun v => get_set b i v h0 h1' z66
      have hfin := ih (b.set i.toNat ⟨markT ((a + 3 * i)), markT ((a + 3 * i) + 1), (a + 3 * i) + 1 + 1⟩, (a + 3 * i) + 1 + 1 + 1) ⟨by simp [hb], by simp only; omega, by
        simp only
        rw [show (i + 1).toNat = i.toNat + 1 by omega]
        refine take_set (mkFile a l.length) b i.toNat _ (by rw [mkFile_len]; exact hb) (by rw [mkFile_len]; omega) ht ?_
        rw [mkFile_get _ _ _ (by omega), show ((i.toNat : Nat) : Int) = i by omega]⟩
      have e1 : wrap64 ((a + 3 * i) + 1) = (a + 3 * i) + 1 := w64 (by omega) (by omega)
      have e2 : wrap64 ((a + 3 * i) + 1 + 1) = (a + 3 * i) + 1 + 1 := w64 (by omega) (by omega)
      have e3 : wrap64 ((a + 3 * i) + 1 + 1 + 1) = (a + 3 * i) + 1 + 1 + 1 := w64 (by omega) (by omega)
      have ei : wrap64 (i + 1) = i + 1 := w64 (by omega) (by omega)
      simp only [laws_markFileS.l0, h1', h0, if_true, e1, e2, e3, ei, Option.bind_some, hr, List.set_set]
      refine Ev.bind (laws_markText_ev _ (by omega)) ?_
      try simp only [h1', h0, if_true, Option.bind_some, hr, List.set_set]
      refine Ev.bind (laws_markText_ev _ (by omega)) ?_
      try simp only [h1', h0, if_true, Option.bind_some, hr, List.set_set]
      exact hfin)
  exact key l.length 0 (l, a) (by omega) (by omega) ⟨rfl, by simp, by simp⟩
theorem laws_heldFileS_ev (a : Int) (n : Nat) (ha : 0 ≤ a) (hb : a ≤ 70368744177664) (hn : n ≤ 1099511627776) : Ev (fun k => laws_heldFileS.f k (mkFile a n) a) (a + 3 * n) := by
  simp only [laws_heldFileS.f]
  have key := loop_up (fun k (s : Int) i => laws_heldFileS.l0 k (mkFile a n) s i) (n : Int) (a + 3 * n) (fun s i => s = a + 3 * i)
    (fun s hs => by
      subst hs
      have c : ¬ (n : Int) < ((mkFile a n).length : Int) := by rw [mkFile_len]; omega
      simp only [laws_heldFileS.l0, c, if_false]
      exact Ev.now _)
    (fun s i h0 h1 hs ih => by
      subst hs
      have hfin := ih ((a + 3 * i) + 1 + 1 + 1) (by omega)
      have c : i < ((mkFile a n).length : Int) := by rw [mkFile_len]; omega
      have he : rd_T66 (mkFile a n) i = ⟨markT ((a + 3 * i)), markT ((a + 3 * i) + 1), (a + 3 * i) + 1 + 1⟩ := by
        have hg := mkFile_get a n i.toNat (by omega)
        rw [show ((i.toNat : Nat) : Int) = i by omega] at hg
        unfold rd_T66
        rw [List.getD_eq_getElem?_getD, hg]
        rfl
      have e1 : wrap64 ((a + 3 * i) + 1) = (a + 3 * i) + 1 := w64 (by omega) (by omega)
      have e2 : wrap64 ((a + 3 * i) + 1 + 1) = (a + 3 * i) + 1 + 1 := w64 (by omega) (by omega)
      have e3 : wrap64 ((a + 3 * i) + 1 + 1 + 1) = (a + 3 * i) + 1 + 1 + 1 := w64 (by omega) (by omega)
      have ei : wrap64 (i + 1) = i + 1 := w64 (by omega) (by omega)
      simp only [laws_heldFileS.l0, c, h0, if_true, e1, e2, e3, ei, he]
      refine Ev.bind (laws_markText_ev _ (by omega)) ?_
      simp only [if_true]
      refine Ev.bind (laws_markText_ev _ (by omega)) ?_
      simp only [if_true]
      exact hfin)
  exact key n 0 a (by omega) (by omega) (by omega)

theorem laws_markDisk_ev (l : List (S66)) (c : Int) (hc : 0 ≤ c) (hc2 : c ≤ 70368744177664) (hl : l.length ≤ 1099511627776) : Ev (fun k => laws_markDisk.f k l c) (c + 3 * l.length, mkFile c l.length) := by
  simp only [laws_markDisk.f]
  exact Ev.bind (laws_markFileS_ev l c hc hc2 hl) (Ev.now _)
theorem laws_heldDisk_ev (c : Int) (n : Nat) (hc : 0 ≤ c) (hc2 : c ≤ 70368744177664) (hn : n ≤ 1099511627776) : Ev (fun k => laws_heldDisk.f k (mkFile c n) c) (c + 3 * n) := by
  simp only [laws_heldDisk.f]
  refine Ev.bind (laws_heldFileS_ev c n hc hc2 hn) ?_
  have h : ¬ c + 3 * (n : Int) < 0 := by omega
  simp only [h, if_false]
  exact Ev.now _

theorem laws_szAct_ev (a0 : Int) (a1 : ByteArray) (a2 : ByteArray) (a3 : ByteArray) (left : Int) (h0 : 0 ≤ left) (h1 : left ≤ 1048576) (g1 : a1.size ≤ 9223372036854775807) (g2 : a2.size ≤ 9223372036854775807) (g3 : a3.size ≤ 9223372036854775807) : ∃ r : Int, Ev (fun _ => laws_szAct.f a0 a1 a2 a3 left) r ∧ (r < 0 ∨ (0 ≤ r ∧ r = left - (a1.size : Int) - (a2.size : Int) - (a3.size : Int))) := by
  have e1 : wrap64 (left - (a1.size : Int)) = left - (a1.size : Int) := w64 (by omega) (by omega)
  by_cases c1 : left - (a1.size : Int) < 0
  · refine ⟨-1, ev_const ?_, Or.inl (by decide)⟩
    simp only [laws_szAct.f, e1, c1, if_true]
  · skip
    have e2 : wrap64 (left - (a1.size : Int) - (a2.size : Int)) = left - (a1.size : Int) - (a2.size : Int) := w64 (by omega) (by omega)
    by_cases c2 : left - (a1.size : Int) - (a2.size : Int) < 0
    · refine ⟨-1, ev_const ?_, Or.inl (by decide)⟩
      simp only [laws_szAct.f, e1, e2, c1, c2, if_false, if_true]
    · skip
      have e3 : wrap64 (left - (a1.size : Int) - (a2.size : Int) - (a3.size : Int)) = left - (a1.size : Int) - (a2.size : Int) - (a3.size : Int) := w64 (by omega) (by omega)
      by_cases c3 : left - (a1.size : Int) - (a2.size : Int) - (a3.size : Int) < 0
      · refine ⟨-1, ev_const ?_, Or.inl (by decide)⟩
        simp only [laws_szAct.f, e1, e2, e3, c1, c2, c3, if_true, if_false]
      · refine ⟨left - (a1.size : Int) - (a2.size : Int) - (a3.size : Int), ev_const ?_, Or.inr ⟨by omega, rfl⟩⟩
        simp only [laws_szAct.f, e1, e2, e3, c1, c2, c3, if_false]

theorem laws_szActS_l0 (l : List (S26)) (hl : l.length ≤ 1048576) (hg : ∀ x : S26, x ∈ l → x.f1.size ≤ 9223372036854775807 ∧ x.f2.size ≤ 9223372036854775807 ∧ x.f3.size ≤ 9223372036854775807) : ∀ (d : Nat) (i left : Int), 0 ≤ i → i + d = l.length → 0 ≤ left → left ≤ 1048576 →
    ∃ r : Int, Ev (fun k => laws_szActS.l0 k l left i) r ∧ (r < 0 ∨ (0 ≤ r ∧ r ≤ left ∧ ∀ x : S26, x ∈ l.drop i.toNat → (x.f1.size : Int) ≤ left ∧ (x.f2.size : Int) ≤ left ∧ (x.f3.size : Int) ≤ left)) := by
  intro d
  induction d with
  | zero =>
    intro i left h0 h hl0 hl1
    refine ⟨left, ev_succ ?_, Or.inr ⟨hl0, Int.le_refl _, fun x hx => ?_⟩⟩
    · have c : ¬ i < (l.length : Int) := by omega
      simp only [laws_szActS.l0, c, if_false]
      exact Ev.now _
    · rw [List.drop_of_length_le (by omega)] at hx
      simp at hx
  | succ d ih =>
    intro i left h0 h hl0 hl1
    have c : i < (l.length : Int) := by omega
    have hd : l.drop i.toNat = rd_T26 l i :: l.drop (i + 1).toNat := drop_get l i h0 c z26
    have hm : rd_T26 l i ∈ l := List.mem_of_mem_drop (i := i.toNat) (by rw [hd]; exact List.mem_cons_self)
    have hq := hg _ hm
    obtain ⟨r, hr, hrr⟩ := laws_szAct_ev (rd_T26 l i).f0 (rd_T26 l i).f1 (rd_T26 l i).f2 (rd_T26 l i).f3 left hl0 hl1 hq.1 hq.2.1 hq.2.2
    have e : wrap64 (i + 1) = i + 1 := w64 (by omega) (by omega)
    by_cases hn : r < 0
    · refine ⟨-1, ev_succ ?_, Or.inl (by decide)⟩
      simp only [laws_szActS.l0, c, h0, if_true]
      refine Ev.bind hr ?_
      simp only [hn, if_true]
      exact Ev.now _
    · have hrr' := hrr.resolve_left hn
      obtain ⟨q, hq1, hq2⟩ := ih (i + 1) r (by omega) (by omega) hrr'.1 (by omega)
      refine ⟨q, ev_succ ?_, ?_⟩
      · simp only [laws_szActS.l0, c, h0, if_true, e]
        refine Ev.bind hr ?_
        simp only [hn, if_false]
        exact hq1
      · rcases hq2 with hq2 | ⟨hq2, hq3, hq4⟩
        · exact Or.inl hq2
        · refine Or.inr ⟨hq2, by omega, fun x hx => ?_⟩
          rw [hd] at hx
          rcases List.mem_cons.1 hx with rfl | hx
          · omega
          · have := hq4 x hx
            omega
theorem laws_szActS_ev (l : List (S26)) (left : Int) (h0 : 0 ≤ left) (h1 : left ≤ 1048576) (hl : l.length ≤ 9223372036854775807) (hg : ∀ x : S26, x ∈ l → x.f1.size ≤ 9223372036854775807 ∧ x.f2.size ≤ 9223372036854775807 ∧ x.f3.size ≤ 9223372036854775807) :
    ∃ r : Int, Ev (fun k => laws_szActS.f k l left) r ∧ (r < 0 ∨ (0 ≤ r ∧ r ≤ left ∧ (l.length : Int) ≤ left ∧ ∀ x : S26, x ∈ l → (x.f1.size : Int) ≤ left ∧ (x.f2.size : Int) ≤ left ∧ (x.f3.size : Int) ≤ left)) := by
  have e : wrap64 (left - (l.length : Int)) = left - (l.length : Int) := w64 (by omega) (by omega)
  by_cases c : left - (l.length : Int) < 0
  · refine ⟨-1, ?_, Or.inl (by decide)⟩
    simp only [laws_szActS.f, e, c, if_true]
    exact Ev.now _
  · obtain ⟨r, hr, hrr⟩ := laws_szActS_l0 l (by omega) hg l.length 0 (left - l.length) (by omega) (by omega) (by omega) (by omega)
    refine ⟨r, ?_, ?_⟩
    · simp only [laws_szActS.f, e, c, if_false]
      exact hr
    · rcases hrr with hrr | ⟨h2, h3, h4⟩
      · exact Or.inl hrr
      · refine Or.inr ⟨h2, by omega, by omega, fun x hx => ?_⟩
        have := h4 x (by simpa using hx)
        omega

theorem laws_toAct_ev (a0 : Int) (a1 : ByteArray) (a2 : ByteArray) (a3 : ByteArray) : Ev (fun _ => laws_toAct.f a0 a1 a2 a3) (a0, a1, a2, a3) := ev_const rfl

def cvAct (x : S26) : S35 := ⟨x.f0, x.f1, x.f2, x.f3⟩
theorem laws_toActS_ev (l : List (S26)) (hl : l.length ≤ 1048576) : Ev (fun k => laws_toActS.f k l) (l.map cvAct) := by
  have c1 : 0 ≤ (l.length : Int) := by omega
  have c2 : ∀ n : Nat, 1048576 ≤ n → ((l.length : Int)).toNat ≤ n := fun n h => by omega
  simp only [laws_toActS.f, c1, if_true]
  rw [ev_if (c2 _ (by decide))]
  have key := loop_up (fun k (b : List (S35)) i => laws_toActS.l0 k l b i) (l.length : Int) (l.map cvAct) (fun b i => b.length = l.length ∧ b.take i.toNat = (l.map cvAct).take i.toNat)
    (fun b hs => by
      obtain ⟨hb, ht⟩ := hs
      have c : ¬ (l.length : Int) < (l.length : Int) := by omega
      simp only [laws_toActS.l0, c, if_false]
      apply ev_some
      rw [List.take_of_length_le (by omega), List.take_of_length_le (by rw [List.length_map]; omega)] at ht
      exact ht)
    (fun b i h0 h1 hs ih => by
      obtain ⟨hb, ht⟩ := hs
      have c : i < (b.length : Int) := by omega
      have e2 : wrap64 (i + 1) = i + 1 := w64 (by omega) (by omega)
      simp only [laws_toActS.l0, h1, h0, if_true, e2]
      refine Ev.bind (laws_toAct_ev _ _ _ _) ?_
      simp only [c, if_true]
      refine ih _ ⟨by rw [List.length_set]; exact hb, ?_⟩
      rw [show (i + 1).toNat = i.toNat + 1 by omega]
      refine take_set (l.map cvAct) b i.toNat _ (by rw [List.length_map]; exact hb) (by rw [List.length_map]; omega) ht ?_
      rw [List.getElem?_map, getElem_rd l i h0 h1 z26]
      rfl)
  exact key l.length 0 _ (by omega) (by omega) ⟨by simp, by simp⟩

theorem laws_eqAct_ev (a0 : Int) (a1 : ByteArray) (a2 : ByteArray) (a3 : ByteArray) : Ev (fun _ => laws_eqAct.f a0 a1 a2 a3 a0 a1 a2 a3) true := by
  apply ev_const
  simp [laws_eqAct.f]
theorem laws_eqActS_ev (l : List (S35)) (hl : l.length ≤ 140737488355328) : Ev (fun k => laws_eqActS.f k l l) true := by
  simp only [laws_eqActS.f, if_true]
  have key := loop_up (fun k (_ : Unit) i => laws_eqActS.l0 k l l i) (l.length : Int) true (fun _ _ => True)
    (fun _ _ => by
      have c : ¬ (l.length : Int) < (l.length : Int) := by omega
      simp only [laws_eqActS.l0, c, if_false]
      exact Ev.now _)
    (fun _ i h0 h1 _ ih => by
      have e2 : wrap64 (i + 1) = i + 1 := w64 (by omega) (by omega)
      simp only [laws_eqActS.l0, h1, h0, if_true, e2]
      refine Ev.bind (laws_eqAct_ev _ _ _ _) ?_
      simp only [if_true]
      exact ih () trivial)
  exact key l.length 0 () (by omega) (by omega) trivial

def mkAct (a : Int) : Nat → List (S35)
  | 0 => []
  | n + 1 => ⟨a, markT (a + 1), markT (a + 1 + 1), markT (a + 1 + 1 + 1)⟩ :: mkAct (a + 1 + 1 + 1 + 1) n
theorem mkAct_len (a : Int) (n : Nat) : (mkAct a n).length = n := by
  induction n generalizing a with
  | zero => rfl
  | succ n ih => simp [mkAct, ih]
theorem mkAct_get (a : Int) (n i : Nat) (h : i < n) : (mkAct a n)[i]? = some ⟨(a + 4 * (i : Int)), markT ((a + 4 * (i : Int)) + 1), markT ((a + 4 * (i : Int)) + 1 + 1), markT ((a + 4 * (i : Int)) + 1 + 1 + 1)⟩ := by
  induction n generalizing a i with
  | zero => omega
  | succ n ih =>
    cases i with
    | zero => simp [mkAct]
    | succ i =>
      simp only [mkAct, List.getElem?_cons_succ]
      rw [ih _ _ (by omega)]
      rw [show (a + 1 + 1 + 1 + 1) + 4 * (i : Int) = a + 4 * ((i + 1 : Nat) : Int) by omega]
theorem laws_markActS_ev (l : List (S35)) (a : Int) (ha : 0 ≤ a) (hb : a ≤ 70368744177664) (hl : l.length ≤ 1099511627776) : Ev (fun k => laws_markActS.f k l a) (a + 4 * l.length, mkAct a l.length) := by
  simp only [laws_markActS.f]
  have key := loop_up (fun k (s : List (S35) × Int) i => laws_markActS.l0 k s.1 s.2 i) (l.length : Int) (a + 4 * l.length, mkAct a l.length)
    (fun s i => s.1.length = l.length ∧ s.2 = a + 4 * i ∧ s.1.take i.toNat = (mkAct a l.length).take i.toNat)
    (fun s hs => by
      obtain ⟨b, x⟩ := s
      obtain ⟨hb, rfl, ht⟩ := hs
      simp only at hb ht ⊢
      have c : ¬ (l.length : Int) < (b.length : Int) := by omega
      simp only [laws_markActS.l0, c, if_false]
      apply ev_some
      rw [List.take_of_length_le (by omega), List.take_of_length_le (by rw [mkAct_len]; omega)] at ht
      rw [ht])
    (fun s i h0 h1 hs ih => by
      obtain ⟨b, x⟩ := s
      obtain ⟨hb, rfl, ht⟩ := hs
      simp only at hb ht ⊢
      have h1' : i < (b.length : Int) := by omega
      have hr : ∀ v, rd_T35 (b.set i.toNat v) i = v := fun v => get_set b i v h0 h1' z35
      have hfin := ih (b.set i.toNat ⟨(a + 4 * i), markT ((a + 4 * i) + 1), markT ((a + 4 * i) + 1 + 1), markT ((a + 4 * i) + 1 + 1 + 1)⟩, (a + 4 * i) + 1 + 1 + 1 + 1) ⟨by simp [hb], by simp only; omega, by
        simp only
        rw [show (i + 1).toNat = i.toNat + 1 by omega]
        refine take_set (mkAct a l.length) b i.toNat _ (by rw [mkAct_len]; exact hb) (by rw [mkAct_len]; omega) ht ?_
        rw [mkAct_get _ _ _ (by omega), show ((i.toNat : Nat) : Int) = i by omega]⟩
      have e1 : wrap64 ((a + 4 * i) + 1) = (a + 4 * i) + 1 := w64 (by omega) (by omega)
      have e2 : wrap64 ((a + 4 * i) + 1 + 1) = (a + 4 * i) + 1 + 1 := w64 (by omega) (by omega)
      have e3 : wrap64 ((a + 4 * i) + 1 + 1 + 1) = (a + 4 * i) + 1 + 1 + 1 := w64 (by omega) (by omega)
      have e4 : wrap64 ((a + 4 * i) + 1 + 1 + 1 + 1) = (a + 4 * i) + 1 + 1 + 1 + 1 := w64 (by omega) (by omega)
      have ei : wrap64 (i + 1) = i + 1 := w64 (by omega) (by omega)
      simp only [laws_markActS.l0, h1', h0, if_true, e1, e2, e3, e4, ei, Option.bind_some, hr, List.set_set]
      refine Ev.bind (laws_markText_ev _ (by omega)) ?_
      try simp only [h1', h0, if_true, Option.bind_some, hr, List.set_set]
      refine Ev.bind (laws_markText_ev _ (by omega)) ?_
      try simp only [h1', h0, if_true, Option.bind_some, hr, List.set_set]
      refine Ev.bind (laws_markText_ev _ (by omega)) ?_
      try simp only [h1', h0, if_true, Option.bind_some, hr, List.set_set]
      exact hfin)
  exact key l.length 0 (l, a) (by omega) (by omega) ⟨rfl, by simp, by simp⟩

theorem laws_toIntS_l0 (l : List Int) (hl : l.length ≤ 35184372088832) : ∀ (d : Nat) (i : Int) (b : List Int), 0 ≤ i → i + d = l.length → b.length = l.length → b.take i.toNat = l.take i.toNat →
    Ev (fun k => laws_toIntS.l0 k l b i) l := by
  intro d
  induction d with
  | zero =>
    intro i b h0 h hb ht
    apply ev_succ
    have c : ¬ i < (l.length : Int) := by omega
    simp only [laws_toIntS.l0, c, if_false]
    apply ev_some
    rw [List.take_of_length_le (by omega), List.take_of_length_le (by omega)] at ht
    exact ht
  | succ d ih =>
    intro i b h0 h hb ht
    apply ev_succ
    have c : i < (l.length : Int) := by omega
    have c2 : i < (b.length : Int) := by omega
    have e5 : wrap64 (i + 1) = i + 1 := w64 (by omega) (by omega)
    simp only [laws_toIntS.l0, c, c2, h0, if_true, e5]
    refine ih (i + 1) _ (by omega) (by omega) (by rw [List.length_set]; exact hb) ?_
    rw [show (i + 1).toNat = i.toNat + 1 by omega]
    refine take_set l b i.toNat _ hb (by omega) ht ?_
    rw [rd, List.getD_eq_getElem?_getD, List.getElem?_eq_getElem (show i.toNat < l.length by omega)]
    rfl
theorem laws_toIntS_ev (l : List Int) (hl : l.length ≤ 35184372088832) : Ev (fun k => laws_toIntS.f k l) l := by
  have c1 : 0 ≤ (l.length : Int) := by omega
  have c2 : ((l.length : Int)).toNat ≤ 35184372088832 := by omega
  simp only [laws_toIntS.f, c1, c2, if_true]
  exact laws_toIntS_l0 l hl l.length 0 _ (by omega) (by omega) (by simp) (by simp)

theorem laws_eqIntS_l0 (a b : List Int) (hl : a.length = b.length) (hb : a.length ≤ 35184372088832) : ∀ (d : Nat) (i : Int), 0 ≤ i → i + d = a.length →
    Ev (fun k => laws_eqIntS.l0 k a b i) (decide (a.drop i.toNat = b.drop i.toNat)) := by
  intro d
  induction d with
  | zero =>
    intro i h0 h
    apply ev_succ
    have c : ¬ i < (a.length : Int) := by omega
    simp only [laws_eqIntS.l0, c, if_false]
    apply ev_some
    rw [List.drop_of_length_le (by omega), List.drop_of_length_le (by omega)]
    simp
  | succ d ih =>
    intro i h0 h
    apply ev_succ
    have c : i < (a.length : Int) := by omega
    have c2 : i < (b.length : Int) := by omega
    have e5 : wrap64 (i + 1) = i + 1 := w64 (by omega) (by omega)
    have hh := ih (i + 1) (by omega) (by omega)
    simp only [laws_eqIntS.l0, c, c2, h0, if_true, e5]
    rw [drop_rd a i h0 c, drop_rd b i h0 c2]
    by_cases hq : rd a i = rd b i
    · simp only [hq, if_true, List.cons.injEq, true_and]
      exact hh
    · simp only [hq, if_false, List.cons.injEq, false_and, decide_false]
      exact Ev.now _
theorem laws_eqIntS_ev (a b : List Int) (hb : a.length ≤ 35184372088832) : Ev (fun k => laws_eqIntS.f k a b) (decide (a = b)) := by
  simp only [laws_eqIntS.f]
  by_cases hl : (a.length : Int) = (b.length : Int)
  · simp only [hl, if_true]
    simpa using laws_eqIntS_l0 a b (by omega) hb a.length 0 (by omega) (by omega)
  · simp only [hl, if_false]
    rw [decide_eq_false (by rintro rfl; exact hl rfl)]
    exact Ev.now _

theorem laws_markIntS_ev (l : List Int) (a : Int) (h0 : 0 ≤ a) (h1 : a ≤ 140737488355328) (hl : l.length ≤ 140737488355328) : Ev (fun k => laws_markIntS.f k l a) (a + l.length, iota a l.length) := by
  simp only [laws_markIntS.f]
  have key := loop_up (fun k (s : List Int × Int) i => laws_markIntS.l0 k s.1 s.2 i) (l.length : Int) (a + l.length, iota a l.length)
    (fun s i => s.1.length = l.length ∧ s.2 = a + i ∧ s.1.take i.toNat = (iota a l.length).take i.toNat)
    (fun s hs => by
      obtain ⟨b, x⟩ := s
      obtain ⟨hb, rfl, ht⟩ := hs
      simp only at hb ht ⊢
      have c : ¬ (l.length : Int) < (b.length : Int) := by omega
      simp only [laws_markIntS.l0, c, if_false]
      apply ev_some
      rw [List.take_of_length_le (by omega), List.take_of_length_le (by rw [iota_len]; omega)] at ht
      rw [ht])
    (fun s i h0 h1 hs ih => by
      obtain ⟨b, x⟩ := s
      obtain ⟨hb, rfl, ht⟩ := hs
      simp only at hb ht ⊢
      have c : i < (b.length : Int) := by omega
      have e1 : wrap64 (a + i + 1) = a + i + 1 := w64 (by omega) (by omega)
      have e2 : wrap64 (i + 1) = i + 1 := w64 (by omega) (by omega)
      simp only [laws_markIntS.l0, c, h0, if_true, e1, e2]
      refine ih (b.set i.toNat (a + i), a + i + 1) ⟨by simp [hb], by simp only; omega, ?_⟩
      simp only
      rw [show (i + 1).toNat = i.toNat + 1 by omega]
      refine take_set (iota a l.length) b i.toNat _ (by rw [iota_len]; exact hb) (by rw [iota_len]; omega) ht ?_
      rw [iota_get _ _ _ (by omega)]; congr 1; omega)
  exact key l.length 0 (l, a) (by omega) (by omega) ⟨rfl, by simp, by simp⟩

theorem FnExactCutActs : OpenFnExactCutActs.Stmt := by
  intro l ac wh left hl ha hw hi
  apply ev_rounds
  simp only [laws_FnExactCutActs.f]
  by_cases cs : (left.length : Int) > 1048576
  · simp only [cs, if_true]
    exact Ev.now _
  simp only [cs, if_false]
  obtain ⟨r, hr, hrr⟩ := laws_szDisk_ev l 1048576 (by decide) (by decide) hl.1 (fun x hx => ⟨(hl.2 x hx).1, (hl.2 x hx).2.1⟩)
  refine Ev.bind hr ?_
  rcases hrr with hneg | ⟨hneg, hle, hll, hg⟩
  · simp only [hneg, if_true]
    exact Ev.now _
  have hn' : ¬ r < 0 := by omega
  simp only [hn', if_false]
  obtain ⟨r2, hr2, hrr2⟩ := laws_szActS_ev ac r hneg (by omega) ha.1 (fun x hx => ⟨(ha.2 x hx).2.1, (ha.2 x hx).2.2.1, (ha.2 x hx).2.2.2⟩)
  refine Ev.bind hr2 ?_
  rcases hrr2 with hneg2 | ⟨hneg2, hle2, hll2, hg2⟩
  · simp only [hneg2, if_true]
    exact Ev.now _
  have hn2' : ¬ r2 < 0 := by omega
  simp only [hn2', if_false]
  have hlen : l.length ≤ 1048576 := by omega
  have hlen' : (l.map cvFile).length ≤ 1048576 := by simpa using hlen
  have halen : ac.length ≤ 1048576 := by omega
  have halen' : (ac.map cvAct).length ≤ 1048576 := by simpa using halen
  have htx : ∀ a ∈ ac.map cvAct, a.f2.size ≤ 1048576 := by
    intro x hx
    obtain ⟨y, hy, rfl⟩ := List.mem_map.1 hx
    have := hg2 y hy
    show y.f2.size ≤ _
    omega
  have htl := laws_toDisk_ev l hlen
  have hta := laws_toActS_ev ac halen
  have hleft : left.length ≤ 1048576 := by omega
  have hti := laws_toIntS_ev left (by omega)
  have hqi := laws_eqIntS_ev left left (by omega)
  rw [decide_eq_true rfl] at hqi
  have hS := spec_CutActs_ev (l.map cvFile) (ac.map cvAct) wh left hlen' halen' htx
  have hI := impl_CutActs_ev (l.map cvFile) (ac.map cvAct) wh left hlen' halen' htx
  have hpl := pCut_len (l.map cvFile) (ac.map cvAct) wh left hlen'
  obtain ⟨p, n, hp⟩ : ∃ p n, pCut (l.map cvFile) (ac.map cvAct) wh left = (p, n) := ⟨_, _, rfl⟩
  rw [hp] at hI hS hpl
  simp only at hpl
  have hq := laws_eqDisk_ev p (by omega)
  have hq0 := laws_eqDisk_ev (l.map cvFile) (by omega)
  have hqa := laws_eqActS_ev (ac.map cvAct) (by omega)
  have hm0 := laws_markDisk_ev (l.map cvFile) 1 (by decide) (by decide) (by omega)
  have hma := laws_markActS_ev (ac.map cvAct) (1 + 3 * ((l.map cvFile).length : Int)) (by omega) (by omega) (by omega)
  have hmi := laws_markIntS_ev left ((1 + 3 * ((l.map cvFile).length : Int)) + 4 * ((ac.map cvAct).length : Int)) (by omega) (by omega) (by omega)
  have hm := laws_markDisk_ev p 1 (by decide) (by decide) (by omega)
  have hh := laws_heldDisk_ev 1 p.length (by decide) (by decide) (by omega)
  have h1 : ¬ (1 + 3 * ((l.map cvFile).length : Int)) + 4 * ((ac.map cvAct).length : Int) + (left.length : Int) < 0 := by omega
  have h2 : ¬ (1 + 3 * (p.length : Int)) < 0 := by omega
  refine Ev.bind htl ?_
  refine Ev.bind hta ?_
  refine Ev.bind hti ?_
  refine Ev.bind hS ?_
  refine Ev.bind htl ?_
  refine Ev.bind hta ?_
  refine Ev.bind hti ?_
  refine Ev.bind hI ?_
  refine Ev.bind hq ?_
  simp only [if_true, bne_self_eq_false]
  apply ev_succ
  simp only [laws_FnExactCutActs.j0, Bool.false_eq_true, if_false]
  refine Ev.bind htl ?_
  refine Ev.bind hq0 ?_
  simp only [if_true]
  refine Ev.bind hta ?_
  refine Ev.bind hqa ?_
  simp only [if_true]
  refine Ev.bind hti ?_
  refine Ev.bind hqi ?_
  simp only [if_true]
  refine Ev.bind hm0 ?_
  refine Ev.bind hma ?_
  refine Ev.bind hmi ?_
  simp only [h1, if_false]
  refine Ev.bind hq ?_
  simp only [if_true, bne_self_eq_false]
  apply ev_succ
  simp only [laws_FnExactCutActs.j1, Bool.false_eq_true, if_false]
  refine Ev.bind hm ?_
  refine Ev.bind hh ?_
  simp only [h2, if_false, if_true]
  refine Ev.bind htl ?_
  refine Ev.bind hta ?_
  refine Ev.bind hti ?_
  refine Ev.bind hI ?_
  refine Ev.bind hq ?_
  simp only [if_true, bne_self_eq_false]
  apply ev_succ
  simp only [laws_FnExactCutActs.j2, Bool.false_eq_true, if_false]
  refine Ev.bind hh ?_
  simp only [h2, if_false, if_true]
  exact Ev.now _

end Go.Proofs.Ytklbkkoojkmjbaa.Pure
