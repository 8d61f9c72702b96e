/- FileAt of the program and of the reference answer the same for every disk and name; the disk given stays as it is. -/
import Derived.Test.YtaainenplcokaaaOpenFnExactFileAt
import Derived.Test.YtaainenplcokaaaBaseL
namespace Go.Proofs.Ytaainenplcokaaa.Pure
open Go.RowKit Go.Proofs.Ytaainenplcokaaa.QFnExactFileAt Go.Proofs.YtaainenplcokaaaW.PrintWords Go.Proofs.YtaainenplcokaaaW.PrintLast Go.Proofs.YtaainenplcokaaaW.PrintMore Go.Proofs.Ytaainenplcokaaa.Base
set_option linter.unusedVariables false
set_option linter.unusedSimpArgs false

theorem laws_szFile_ev (a0 : ByteArray) (a1 : ByteArray) (a2 : Int) (left : Int) (h0 : 0 ≤ left) (h1 : left ≤ 1048576) (g0 : a0.size ≤ 9223372036854775807) (g1 : a1.size ≤ 9223372036854775807) : ∃ r : Int, Ev (fun _ => laws_szFile.f a0 a1 a2 left) r ∧ (r < 0 ∨ (0 ≤ r ∧ r = left - (a0.size : Int) - (a1.size : Int))) := by
  have e1 : wrap64 (left - (a0.size : Int)) = left - (a0.size : Int) := w64 (by omega) (by omega)
  by_cases c1 : left - (a0.size : Int) < 0
  · refine ⟨-1, ev_const ?_, Or.inl (by decide)⟩
    simp only [laws_szFile.f, e1, c1, if_true]
  · skip
    have e2 : wrap64 (left - (a0.size : Int) - (a1.size : Int)) = left - (a0.size : Int) - (a1.size : Int) := w64 (by omega) (by omega)
    by_cases c2 : left - (a0.size : Int) - (a1.size : Int) < 0
    · refine ⟨-1, ev_const ?_, Or.inl (by decide)⟩
      simp only [laws_szFile.f, e1, e2, c1, c2, if_true, if_false]
    · refine ⟨left - (a0.size : Int) - (a1.size : Int), ev_const ?_, Or.inr ⟨by omega, rfl⟩⟩
      simp only [laws_szFile.f, e1, e2, c1, c2, if_false]
theorem laws_szFileS_l0 (l : List (S179)) (hl : l.length ≤ 1048576) (hg : ∀ x : S179, x ∈ l → x.f0.size ≤ 9223372036854775807 ∧ x.f1.size ≤ 9223372036854775807) : ∀ (d : Nat) (i left : Int), 0 ≤ i → i + d = l.length → 0 ≤ left → left ≤ 1048576 →
    ∃ r : Int, Ev (fun k => laws_szFileS.l0 k l left i) r ∧ (r < 0 ∨ (0 ≤ r ∧ r ≤ left ∧ ∀ x : S179, x ∈ l.drop i.toNat → (x.f0.size : Int) ≤ left ∧ (x.f1.size : Int) ≤ left)) := by
  intro d
  induction d with
  | zero =>
    intro i left h0 h hl0 hl1
    refine ⟨left, ev_succ ?_, Or.inr ⟨hl0, Int.le_refl _, fun x hx => ?_⟩⟩
    · have c : ¬ i < (l.length : Int) := by omega
      simp only [laws_szFileS.l0, c, if_false]
      exact Ev.now _
    · rw [List.drop_of_length_le (by omega)] at hx
      simp at hx
  | succ d ih =>
    intro i left h0 h hl0 hl1
    have c : i < (l.length : Int) := by omega
    have hd : l.drop i.toNat = rd_T179 l i :: l.drop (i + 1).toNat := drop_get l i h0 c z179
    have hm : rd_T179 l i ∈ l := List.mem_of_mem_drop (i := i.toNat) (by rw [hd]; exact List.mem_cons_self)
    have hq := hg _ hm
    obtain ⟨r, hr, hrr⟩ := laws_szFile_ev (rd_T179 l i).f0 (rd_T179 l i).f1 (rd_T179 l i).f2 left hl0 hl1 hq.1 hq.2
    have e : wrap64 (i + 1) = i + 1 := w64 (by omega) (by omega)
    by_cases hn : r < 0
    · refine ⟨-1, ev_succ ?_, Or.inl (by decide)⟩
      simp only [laws_szFileS.l0, c, h0, if_true]
      refine Ev.bind hr ?_
      simp only [hn, if_true]
      exact Ev.now _
    · have hrr' := hrr.resolve_left hn
      obtain ⟨q, hq1, hq2⟩ := ih (i + 1) r (by omega) (by omega) hrr'.1 (by omega)
      refine ⟨q, ev_succ ?_, ?_⟩
      · simp only [laws_szFileS.l0, c, h0, if_true, e]
        refine Ev.bind hr ?_
        simp only [hn, if_false]
        exact hq1
      · rcases hq2 with hq2 | ⟨hq2, hq3, hq4⟩
        · exact Or.inl hq2
        · refine Or.inr ⟨hq2, by omega, fun x hx => ?_⟩
          rw [hd] at hx
          rcases List.mem_cons.1 hx with rfl | hx
          · omega
          · have := hq4 x hx
            omega
theorem laws_szFileS_ev (l : List (S179)) (left : Int) (h0 : 0 ≤ left) (h1 : left ≤ 1048576) (hl : l.length ≤ 9223372036854775807) (hg : ∀ x : S179, x ∈ l → x.f0.size ≤ 9223372036854775807 ∧ x.f1.size ≤ 9223372036854775807) :
    ∃ r : Int, Ev (fun k => laws_szFileS.f k l left) r ∧ (r < 0 ∨ (0 ≤ r ∧ r ≤ left ∧ (l.length : Int) ≤ left ∧ ∀ x : S179, x ∈ l → (x.f0.size : Int) ≤ left ∧ (x.f1.size : Int) ≤ left)) := by
  have e : wrap64 (left - (l.length : Int)) = left - (l.length : Int) := w64 (by omega) (by omega)
  by_cases c : left - (l.length : Int) < 0
  · refine ⟨-1, ?_, Or.inl (by decide)⟩
    simp only [laws_szFileS.f, e, c, if_true]
    exact Ev.now _
  · obtain ⟨r, hr, hrr⟩ := laws_szFileS_l0 l (by omega) hg l.length 0 (left - l.length) (by omega) (by omega) (by omega) (by omega)
    refine ⟨r, ?_, ?_⟩
    · simp only [laws_szFileS.f, e, c, if_false]
      exact hr
    · rcases hrr with hrr | ⟨h2, h3, h4⟩
      · exact Or.inl hrr
      · refine Or.inr ⟨h2, by omega, by omega, fun x hx => ?_⟩
        have := h4 x (by simpa using hx)
        omega

def cvFile (x : S179) : S49 := ⟨x.f0, x.f1, x.f2⟩
theorem laws_toFile_ev (a0 : ByteArray) (a1 : ByteArray) (a2 : Int) : Ev (fun _ => laws_toFile.f a0 a1 a2) (a0, a1, a2) := ev_const rfl
theorem laws_toFileS_ev (l : List (S179)) (hl : l.length ≤ 1048576) : Ev (fun k => laws_toFileS.f k l) (l.map cvFile) := by
  have c1 : 0 ≤ (l.length : Int) := by omega
  have c2 : ∀ n : Nat, 1048576 ≤ n → ((l.length : Int)).toNat ≤ n := fun n h => by omega
  simp only [laws_toFileS.f, c1, if_true]
  rw [ev_if (c2 _ (by decide))]
  have key := loop_up (fun k (b : List (S49)) i => laws_toFileS.l0 k l b i) (l.length : Int) (l.map cvFile) (fun b i => b.length = l.length ∧ b.take i.toNat = (l.map cvFile).take i.toNat)
    (fun b hs => by
      obtain ⟨hb, ht⟩ := hs
      have c : ¬ (l.length : Int) < (l.length : Int) := by omega
      simp only [laws_toFileS.l0, c, if_false]
      apply ev_some
      rw [List.take_of_length_le (by omega), List.take_of_length_le (by rw [List.length_map]; omega)] at ht
      exact ht)
    (fun b i h0 h1 hs ih => by
      obtain ⟨hb, ht⟩ := hs
      have c : i < (b.length : Int) := by omega
      have e2 : wrap64 (i + 1) = i + 1 := w64 (by omega) (by omega)
      simp only [laws_toFileS.l0, h1, h0, if_true, e2]
      refine Ev.bind (laws_toFile_ev _ _ _) ?_
      simp only [c, if_true]
      refine ih _ ⟨by rw [List.length_set]; exact hb, ?_⟩
      rw [show (i + 1).toNat = i.toNat + 1 by omega]
      refine take_set (l.map cvFile) b i.toNat _ (by rw [List.length_map]; exact hb) (by rw [List.length_map]; omega) ht ?_
      rw [List.getElem?_map, getElem_rd l i h0 h1 z179]
      rfl)
  exact key l.length 0 _ (by omega) (by omega) ⟨by simp, by simp⟩

theorem laws_eqFile_ev (a0 : ByteArray) (a1 : ByteArray) (a2 : Int) : Ev (fun _ => laws_eqFile.f a0 a1 a2 a0 a1 a2) true := by
  apply ev_const
  simp [laws_eqFile.f]
theorem laws_eqFileS_ev (l : List (S49)) (hl : l.length ≤ 140737488355328) : Ev (fun k => laws_eqFileS.f k l l) true := by
  simp only [laws_eqFileS.f, if_true]
  have key := loop_up (fun k (_ : Unit) i => laws_eqFileS.l0 k l l i) (l.length : Int) true (fun _ _ => True)
    (fun _ _ => by
      have c : ¬ (l.length : Int) < (l.length : Int) := by omega
      simp only [laws_eqFileS.l0, c, if_false]
      exact Ev.now _)
    (fun _ i h0 h1 _ ih => by
      have e2 : wrap64 (i + 1) = i + 1 := w64 (by omega) (by omega)
      simp only [laws_eqFileS.l0, h1, h0, if_true, e2]
      refine Ev.bind (laws_eqFile_ev _ _ _) ?_
      simp only [if_true]
      exact ih () trivial)
  exact key l.length 0 () (by omega) (by omega) trivial

theorem laws_szDisk_ev (l : List (S179)) (left : Int) (h0 : 0 ≤ left) (h1 : left ≤ 1048576) (hl : l.length ≤ 9223372036854775807) (hg : ∀ x : S179, x ∈ l → x.f0.size ≤ 9223372036854775807 ∧ x.f1.size ≤ 9223372036854775807) :
    ∃ r : Int, Ev (fun k => laws_szDisk.f k l left) r ∧ (r < 0 ∨ (0 ≤ r ∧ r ≤ left ∧ (l.length : Int) ≤ left ∧ ∀ x : S179, x ∈ l → (x.f0.size : Int) ≤ left ∧ (x.f1.size : Int) ≤ left)) := by
  obtain ⟨r, hr, hrr⟩ := laws_szFileS_ev l left h0 h1 hl hg
  refine ⟨if r < 0 then -1 else r, ?_, ?_⟩
  · simp only [laws_szDisk.f]
    refine Ev.bind hr ?_
    by_cases c : r < 0 <;> simp [c]
  · rcases hrr with h | h
    · rw [if_pos h]; exact Or.inl (by decide)
    · rw [if_neg (by omega)]; exact Or.inr h
theorem laws_toDisk_ev (l : List (S179)) (hl : l.length ≤ 1048576) : Ev (fun k => laws_toDisk.f k l) (l.map cvFile) := by
  simp only [laws_toDisk.f]
  exact Ev.bind (laws_toFileS_ev l hl) (Ev.now _)
theorem laws_eqDisk_ev (l : List (S49)) (hl : l.length ≤ 140737488355328) : Ev (fun k => laws_eqDisk.f k l l) true := by
  simp only [laws_eqDisk.f]
  refine Ev.bind (laws_eqFileS_ev l hl) ?_
  simp

def pFile (f : S49) : Bool := decide (1 ≤ f.f0.size ∧ f.f0.size ≤ 8) && decide (f.f1.size ≤ 20000) && decide (0 ≤ f.f2 ∧ f.f2 ≤ f.f1.size)
def pDiskL : Option ByteArray → List (S49) → Bool
  | _, [] => true
  | none, f :: l => pFile f && pDiskL (some f.f0) l
  | some q, f :: l => pFile f && Op.bytesLess q.toList f.f0.toList && pDiskL (some f.f0) l
def prevN (l : List (S49)) (i : Int) : Option ByteArray := if i = 0 then none else some (rd_T49 l (i - 1)).f0
def pDiskOk (l : List (S49)) : Bool := decide (l.length ≤ 30) && pDiskL none l
theorem drop_file (l : List (S49)) (i : Int) (h0 : 0 ≤ i) (h1 : i < l.length) : l.drop i.toNat = rd_T49 l i :: l.drop (i + 1).toNat := drop_get l i h0 h1 z49
theorem prevN_next (l : List (S49)) (i : Int) (h : 0 ≤ i) : prevN l (i + 1) = some (rd_T49 l i).f0 := by
  rw [prevN, if_neg (by omega), show i + 1 - 1 = i by omega]
theorem pDiskL_bad {o : Option ByteArray} {f : S49} {l : List (S49)} (h : pFile f = false) : pDiskL o (f :: l) = false := by
  cases o <;> simp [pDiskL, h]

def pAtF (n : ByteArray) (l : List (S49)) (i : Nat) : Int := Lib.idxByFrom (fun (_ : S49) y => y.f0.toList == n.toList) z49 l i
theorem pAtF_nil (n : ByteArray) (i : Nat) : pAtF n [] i = -1 := rfl
theorem pAtF_cons (n : ByteArray) (f : S49) (l : List (S49)) (i : Nat) : pAtF n (f :: l) i = if (f.f0.toList == n.toList) = true then (i : Int) else pAtF n l (i + 1) := rfl
theorem pAtF_in (n : ByteArray) : ∀ (l : List (S49)) (i : Nat), pAtF n l i = -1 ∨ ((i : Int) ≤ pAtF n l i ∧ pAtF n l i < i + l.length) := by
  intro l
  induction l with
  | nil => intro i; exact Or.inl rfl
  | cons f l ih =>
    intro i
    rw [pAtF_cons]
    split
    · right; rw [List.length_cons]; omega
    · rcases ih (i + 1) with h | h
      · exact Or.inl h
      · right; rw [List.length_cons]; omega
def pAt (l : List (S49)) (n : ByteArray) : Int := pAtF n l 0
def pFileAt (l : List (S49)) (n : ByteArray) : ByteArray × Bool := if pAt l n < 0 then (⟨#[]⟩, false) else ((rd_T49 l (pAt l n)).f1, true)

theorem impl_FileAt_ev (l : List (S49)) (n : ByteArray) : Ev (fun _ => impl_FileAt.f l n) (pFileAt l n) := by
  apply ev_const
  have h := pAtF_in n l 0
  have hp : impl_placeOf.f l n = some (pAt l n) := rfl
  simp only [impl_FileAt.f, hp, Option.bind_some]
  unfold pFileAt
  by_cases c : pAt l n < 0
  · rw [if_pos c, if_pos c]
  · have h' : 0 ≤ pAt l n ∧ pAt l n < (l.length : Int) := by unfold pAt at c ⊢; omega
    rw [if_neg c, if_neg c, if_pos h'.1, if_pos h'.2]

theorem spec_l03At_l0 (l : List (S49)) (n : ByteArray) (hl : l.length ≤ 1048576) : ∀ (d i : Nat), i + d = l.length → Ev (fun k => spec_l03At.l0 k n (i : Int) l) (pAtF n (l.drop i) i) := by
  intro d
  induction d with
  | zero =>
    intro i h
    apply ev_succ
    have c : ¬ (i : Int) < (l.length : Int) := by omega
    simp only [spec_l03At.l0, c, if_false]
    rw [List.drop_of_length_le (by omega)]
    exact Ev.now _
  | succ d ih =>
    intro i h
    apply ev_succ
    have c : (i : Int) < (l.length : Int) := by omega
    have c0 : (0 : Int) ≤ (i : Int) := by omega
    have e1 : wrap64 ((i : Int) + 1) = ((i + 1 : Nat) : Int) := w64 (by omega) (by omega)
    have hd := drop_file l i c0 c
    rw [show ((i : Int)).toNat = i by omega, show ((i : Int) + 1).toNat = i + 1 by omega] at hd
    have hh := ih (i + 1) (by omega)
    rw [hd, pAtF_cons]
    by_cases hq : (rd_T49 l (i : Int)).f0.toList = n.toList
    · simp only [spec_l03At.l0, c, c0, hq, if_true, beq_self_eq_true]
      exact Ev.now _
    · have hq2 : ¬ ((rd_T49 l (i : Int)).f0.toList == n.toList) = true := by simpa using hq
      simp only [spec_l03At.l0, c, c0, hq, if_true, if_false, e1]
      rw [if_neg hq2]
      exact hh
theorem spec_l03At_ev (l : List (S49)) (n : ByteArray) (hl : l.length ≤ 1048576) : Ev (fun k => spec_l03At.f k l n) (pAt l n) := by
  simp only [spec_l03At.f]
  exact spec_l03At_l0 l n hl l.length 0 (by omega)
theorem spec_FileAt_ev (l : List (S49)) (n : ByteArray) (hl : l.length ≤ 1048576) : Ev (fun k => spec_FileAt.f k l n) (pFileAt l n) := by
  have h := pAtF_in n l 0
  simp only [spec_FileAt.f]
  refine Ev.bind (spec_l03At_ev l n hl) ?_
  unfold pFileAt
  by_cases c : pAt l n < 0
  · simp only [c, if_true]
    exact Ev.now _
  · have h' : 0 ≤ pAt l n ∧ pAt l n < (l.length : Int) := by unfold pAt at c ⊢; omega
    simp only [c, if_false, h'.1, h'.2, if_true]
    exact Ev.now _

theorem FnExactFileAt : OpenFnExactFileAt.Stmt := by
  intro l n hl hn
  apply ev_rounds
  simp only [laws_FnExactFileAt.f]
  by_cases cn : (n.size : Int) > 1048576
  · simp only [cn, if_true]
    exact Ev.now _
  simp only [cn, if_false]
  obtain ⟨r, hr, hrr⟩ := laws_szDisk_ev l 1048576 (by decide) (by decide) hl.1 (fun x hx => ⟨(hl.2 x hx).1, (hl.2 x hx).2.1⟩)
  refine Ev.bind hr ?_
  rcases hrr with hn | ⟨hn, hle, hll, hg⟩
  · simp only [hn, if_true]
    exact Ev.now _
  · have hn' : ¬ r < 0 := by omega
    simp only [hn', if_false]
    have hlen : l.length ≤ 1048576 := by omega
    have hlen' : (l.map cvFile).length ≤ 1048576 := by simpa using hlen
    have ht := laws_toDisk_ev l hlen
    refine Ev.bind ht ?_
    refine Ev.bind (spec_FileAt_ev _ n hlen') ?_
    refine Ev.bind ht ?_
    refine Ev.bind (impl_FileAt_ev _ n) ?_
    simp only [if_true, bne_self_eq_false]
    apply ev_succ
    simp only [laws_FnExactFileAt.j0, Bool.false_eq_true, if_false]
    refine Ev.bind ht ?_
    refine Ev.bind (laws_eqDisk_ev _ (by omega)) ?_
    simp

end Go.Proofs.Ytaainenplcokaaa.Pure
