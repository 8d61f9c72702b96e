/- ShedActs of the program and of the reference answer the same for every disk; the disk given stays as it is, and the answer shares nothing with it. -/
import Derived.Test.YtogifkjkbfdocaaGreatDoorOpenFnExactShedActs
import Derived.Test.YtogifkjkbfdocaaGreatDoorBaseL
import Derived.Test.YtogifkjkbfdocaaGreatDoorBaseN
import Derived.Test.YtogifkjkbfdocaaGreatDoorBaseB
import Derived.Test.YtogifkjkbfdocaaGreatDoorNumerals
namespace Go.Proofs.YtogifkjkbfdocaaGreatDoor.Pure
open Go.RowKit Go.Proofs.YtogifkjkbfdocaaGreatDoor.QFnExactShedActs Go.Proofs.YtogifkjkbfdocaaGreatDoorW.PrintWords Go.Proofs.YtogifkjkbfdocaaGreatDoorW.PrintLast Go.Proofs.YtogifkjkbfdocaaGreatDoorW.PrintMore Go.Proofs.YtogifkjkbfdocaaGreatDoor.Base
open Go.Proofs.YtogifkjkbfdocaaGreatDoor.Numerals
set_option linter.unusedVariables false
set_option linter.unusedSimpArgs false

theorem Ev.now {α : Type} (r : α) : Ev (fun _ => some r) r := ⟨0, fun _ _ => rfl⟩

theorem laws_szFile_ev (a0 : ByteArray) (a1 : ByteArray) (a2 : Int) (left : Int) (h0 : 0 ≤ left) (h1 : left ≤ 1048576) (g0 : a0.size ≤ 9223372036854775807) (g1 : a1.size ≤ 9223372036854775807) : ∃ r : Int, Ev (fun _ => laws_szFile.f a0 a1 a2 left) r ∧ (r < 0 ∨ (0 ≤ r ∧ r = left - (a0.size : Int) - (a1.size : Int))) := by
  have e1 : wrap64 (left - (a0.size : Int)) = left - (a0.size : Int) := w64 (by omega) (by omega)
  by_cases c1 : left - (a0.size : Int) < 0
  · refine ⟨-1, ev_const ?_, Or.inl (by decide)⟩
    simp only [laws_szFile.f, e1, c1, if_true]
  · skip
    have e2 : wrap64 (left - (a0.size : Int) - (a1.size : Int)) = left - (a0.size : Int) - (a1.size : Int) := w64 (by omega) (by omega)
    by_cases c2 : left - (a0.size : Int) - (a1.size : Int) < 0
    · refine ⟨-1, ev_const ?_, Or.inl (by decide)⟩
      simp only [laws_szFile.f, e1, e2, c1, c2, if_true, if_false]
    · refine ⟨left - (a0.size : Int) - (a1.size : Int), ev_const ?_, Or.inr ⟨by omega, rfl⟩⟩
      simp only [laws_szFile.f, e1, e2, c1, c2, if_false]
theorem laws_szFileS_l0 (l : List (S90)) (hl : l.length ≤ 1048576) (hg : ∀ x : S90, x ∈ l → x.f0.size ≤ 9223372036854775807 ∧ x.f1.size ≤ 9223372036854775807) : ∀ (d : Nat) (i left : Int), 0 ≤ i → i + d = l.length → 0 ≤ left → left ≤ 1048576 →
    ∃ r : Int, Ev (fun k => laws_szFileS.l0 k l left i) r ∧ (r < 0 ∨ (0 ≤ r ∧ r ≤ left ∧ ∀ x : S90, x ∈ l.drop i.toNat → (x.f0.size : Int) ≤ left ∧ (x.f1.size : Int) ≤ left)) := by
  intro d
  induction d with
  | zero =>
    intro i left h0 h hl0 hl1
    refine ⟨left, ev_succ ?_, Or.inr ⟨hl0, Int.le_refl _, fun x hx => ?_⟩⟩
    · have c : ¬ i < (l.length : Int) := by omega
      simp only [laws_szFileS.l0, c, if_false]
      exact Ev.now _
    · rw [List.drop_of_length_le (by omega)] at hx
      simp at hx
  | succ d ih =>
    intro i left h0 h hl0 hl1
    have c : i < (l.length : Int) := by omega
    have hd : l.drop i.toNat = rd_T90 l i :: l.drop (i + 1).toNat := drop_get l i h0 c z90
    have hm : rd_T90 l i ∈ l := List.mem_of_mem_drop (i := i.toNat) (by rw [hd]; exact List.mem_cons_self)
    have hq := hg _ hm
    obtain ⟨r, hr, hrr⟩ := laws_szFile_ev (rd_T90 l i).f0 (rd_T90 l i).f1 (rd_T90 l i).f2 left hl0 hl1 hq.1 hq.2
    have e : wrap64 (i + 1) = i + 1 := w64 (by omega) (by omega)
    by_cases hn : r < 0
    · refine ⟨-1, ev_succ ?_, Or.inl (by decide)⟩
      simp only [laws_szFileS.l0, c, h0, if_true]
      refine Ev.bind hr ?_
      simp only [hn, if_true]
      exact Ev.now _
    · have hrr' := hrr.resolve_left hn
      obtain ⟨q, hq1, hq2⟩ := ih (i + 1) r (by omega) (by omega) hrr'.1 (by omega)
      refine ⟨q, ev_succ ?_, ?_⟩
      · simp only [laws_szFileS.l0, c, h0, if_true, e]
        refine Ev.bind hr ?_
        simp only [hn, if_false]
        exact hq1
      · rcases hq2 with hq2 | ⟨hq2, hq3, hq4⟩
        · exact Or.inl hq2
        · refine Or.inr ⟨hq2, by omega, fun x hx => ?_⟩
          rw [hd] at hx
          rcases List.mem_cons.1 hx with rfl | hx
          · omega
          · have := hq4 x hx
            omega
theorem laws_szFileS_ev (l : List (S90)) (left : Int) (h0 : 0 ≤ left) (h1 : left ≤ 1048576) (hl : l.length ≤ 9223372036854775807) (hg : ∀ x : S90, x ∈ l → x.f0.size ≤ 9223372036854775807 ∧ x.f1.size ≤ 9223372036854775807) :
    ∃ r : Int, Ev (fun k => laws_szFileS.f k l left) r ∧ (r < 0 ∨ (0 ≤ r ∧ r ≤ left ∧ (l.length : Int) ≤ left ∧ ∀ x : S90, x ∈ l → (x.f0.size : Int) ≤ left ∧ (x.f1.size : Int) ≤ left)) := by
  have e : wrap64 (left - (l.length : Int)) = left - (l.length : Int) := w64 (by omega) (by omega)
  by_cases c : left - (l.length : Int) < 0
  · refine ⟨-1, ?_, Or.inl (by decide)⟩
    simp only [laws_szFileS.f, e, c, if_true]
    exact Ev.now _
  · obtain ⟨r, hr, hrr⟩ := laws_szFileS_l0 l (by omega) hg l.length 0 (left - l.length) (by omega) (by omega) (by omega) (by omega)
    refine ⟨r, ?_, ?_⟩
    · simp only [laws_szFileS.f, e, c, if_false]
      exact hr
    · rcases hrr with hrr | ⟨h2, h3, h4⟩
      · exact Or.inl hrr
      · refine Or.inr ⟨h2, by omega, by omega, fun x hx => ?_⟩
        have := h4 x (by simpa using hx)
        omega

def cvFile (x : S90) : S63 := ⟨x.f0, x.f1, x.f2⟩
theorem laws_toFile_ev (a0 : ByteArray) (a1 : ByteArray) (a2 : Int) : Ev (fun _ => laws_toFile.f a0 a1 a2) (a0, a1, a2) := ev_const rfl
theorem laws_toFileS_ev (l : List (S90)) (hl : l.length ≤ 1048576) : Ev (fun k => laws_toFileS.f k l) (l.map cvFile) := by
  have c1 : 0 ≤ (l.length : Int) := by omega
  have c2 : ∀ n : Nat, 1048576 ≤ n → ((l.length : Int)).toNat ≤ n := fun n h => by omega
  simp only [laws_toFileS.f, c1, if_true]
  rw [ev_if (c2 _ (by decide))]
  have key := loop_up (fun k (b : List (S63)) i => laws_toFileS.l0 k l b i) (l.length : Int) (l.map cvFile) (fun b i => b.length = l.length ∧ b.take i.toNat = (l.map cvFile).take i.toNat)
    (fun b hs => by
      obtain ⟨hb, ht⟩ := hs
      have c : ¬ (l.length : Int) < (l.length : Int) := by omega
      simp only [laws_toFileS.l0, c, if_false]
      apply ev_some
      rw [List.take_of_length_le (by omega), List.take_of_length_le (by rw [List.length_map]; omega)] at ht
      exact ht)
    (fun b i h0 h1 hs ih => by
      obtain ⟨hb, ht⟩ := hs
      have c : i < (b.length : Int) := by omega
      have e2 : wrap64 (i + 1) = i + 1 := w64 (by omega) (by omega)
      simp only [laws_toFileS.l0, h1, h0, if_true, e2]
      refine Ev.bind (laws_toFile_ev _ _ _) ?_
      simp only [c, if_true]
      refine ih _ ⟨by rw [List.length_set]; exact hb, ?_⟩
      rw [show (i + 1).toNat = i.toNat + 1 by omega]
      refine take_set (l.map cvFile) b i.toNat _ (by rw [List.length_map]; exact hb) (by rw [List.length_map]; omega) ht ?_
      rw [List.getElem?_map, getElem_rd l i h0 h1 z90]
      rfl)
  exact key l.length 0 _ (by omega) (by omega) ⟨by simp, by simp⟩

theorem laws_eqFile_ev (a0 : ByteArray) (a1 : ByteArray) (a2 : Int) : Ev (fun _ => laws_eqFile.f a0 a1 a2 a0 a1 a2) true := by
  apply ev_const
  simp [laws_eqFile.f]
theorem laws_eqFileS_ev (l : List (S63)) (hl : l.length ≤ 140737488355328) : Ev (fun k => laws_eqFileS.f k l l) true := by
  simp only [laws_eqFileS.f, if_true]
  have key := loop_up (fun k (_ : Unit) i => laws_eqFileS.l0 k l l i) (l.length : Int) true (fun _ _ => True)
    (fun _ _ => by
      have c : ¬ (l.length : Int) < (l.length : Int) := by omega
      simp only [laws_eqFileS.l0, c, if_false]
      exact Ev.now _)
    (fun _ i h0 h1 _ ih => by
      have e2 : wrap64 (i + 1) = i + 1 := w64 (by omega) (by omega)
      simp only [laws_eqFileS.l0, h1, h0, if_true, e2]
      refine Ev.bind (laws_eqFile_ev _ _ _) ?_
      simp only [if_true]
      exact ih () trivial)
  exact key l.length 0 () (by omega) (by omega) trivial

theorem laws_szDisk_ev (l : List (S90)) (left : Int) (h0 : 0 ≤ left) (h1 : left ≤ 1048576) (hl : l.length ≤ 9223372036854775807) (hg : ∀ x : S90, x ∈ l → x.f0.size ≤ 9223372036854775807 ∧ x.f1.size ≤ 9223372036854775807) :
    ∃ r : Int, Ev (fun k => laws_szDisk.f k l left) r ∧ (r < 0 ∨ (0 ≤ r ∧ r ≤ left ∧ (l.length : Int) ≤ left ∧ ∀ x : S90, x ∈ l → (x.f0.size : Int) ≤ left ∧ (x.f1.size : Int) ≤ left)) := by
  obtain ⟨r, hr, hrr⟩ := laws_szFileS_ev l left h0 h1 hl hg
  refine ⟨if r < 0 then -1 else r, ?_, ?_⟩
  · simp only [laws_szDisk.f]
    refine Ev.bind hr ?_
    by_cases c : r < 0 <;> simp [c]
  · rcases hrr with h | h
    · rw [if_pos h]; exact Or.inl (by decide)
    · rw [if_neg (by omega)]; exact Or.inr h
theorem laws_toDisk_ev (l : List (S90)) (hl : l.length ≤ 1048576) : Ev (fun k => laws_toDisk.f k l) (l.map cvFile) := by
  simp only [laws_toDisk.f]
  exact Ev.bind (laws_toFileS_ev l hl) (Ev.now _)
theorem laws_eqDisk_ev (l : List (S63)) (hl : l.length ≤ 140737488355328) : Ev (fun k => laws_eqDisk.f k l l) true := by
  simp only [laws_eqDisk.f]
  refine Ev.bind (laws_eqFileS_ev l hl) ?_
  simp

def pNum (c : UInt8) (most : Nat) (s : ByteArray) : Int := match s.data.toList with
  | [] => -1
  | d :: t => if d = c ∧ isDec t ∧ dval 0 t ≤ most then ((dval 0 t : Nat) : Int) else -1
theorem isDec_ne {t : List UInt8} (h : isDec t) : t ≠ [] := by
  intro e
  have := (dec_ok (dval 0 t)).2.2
  rw [h.2.2] at this
  exact this e
theorem pNum_short (c : UInt8) (most : Nat) (s : ByteArray) (h : s.size < 2) : pNum c most s = -1 := by
  have hs : s.data.toList.length < 2 := by simpa using h
  unfold pNum
  split
  · rfl
  · rename_i d t e
    rw [e, List.length_cons] at hs
    have ht : t = [] := List.eq_nil_of_length_eq_zero (by omega)
    rw [if_neg (fun h => isDec_ne h.2.1 ht)]
theorem pNum_cons (c : UInt8) (most : Nat) (s : ByteArray) (d : UInt8) (t : List UInt8) (e : s.data.toList = d :: t) : pNum c most s = if d = c ∧ isDec t ∧ dval 0 t ≤ most then ((dval 0 t : Nat) : Int) else -1 := by
  unfold pNum
  rw [e]
theorem name_parts (s : ByteArray) (h : ¬ s.size < 2) : ∃ d t, s.data.toList = d :: t ∧ (s.extract 0 1).data.toList = [d] ∧ (s.extract 1 s.size).data.toList = t := by
  have hs : ¬ s.data.toList.length < 2 := by simpa using h
  obtain ⟨d, t, e⟩ : ∃ d t, s.data.toList = d :: t := by
    cases h2 : s.data.toList with
    | nil => rw [h2] at hs; exact absurd (by decide) hs
    | cons d t => exact ⟨d, t, rfl⟩
  refine ⟨d, t, e, ?_, ?_⟩
  · rw [Lib.extract_data, e]; rfl
  · rw [Lib.extract_data, e]
    have : s.size = t.length + 1 := by rw [show s.size = s.data.toList.length by simp, e]; rfl
    rw [this]
    simp
theorem pNum_range (c : UInt8) (most : Nat) (s : ByteArray) : -1 ≤ pNum c most s ∧ pNum c most s ≤ most := by
  unfold pNum
  split
  · omega
  · split
    · rename_i h; omega
    · omega

def pFile (f : S63) : Bool := decide (1 ≤ f.f0.size ∧ f.f0.size ≤ 8) && decide (f.f1.size ≤ 20000) && decide (0 ≤ f.f2 ∧ f.f2 ≤ f.f1.size)
def pDiskL : Option ByteArray → List (S63) → Bool
  | _, [] => true
  | none, f :: l => pFile f && pDiskL (some f.f0) l
  | some q, f :: l => pFile f && Op.bytesLess q.toList f.f0.toList && pDiskL (some f.f0) l
def prevN (l : List (S63)) (i : Int) : Option ByteArray := if i = 0 then none else some (rd_T63 l (i - 1)).f0
def pDiskOk (l : List (S63)) : Bool := decide (l.length ≤ 30) && pDiskL none l
theorem drop_file (l : List (S63)) (i : Int) (h0 : 0 ≤ i) (h1 : i < l.length) : l.drop i.toNat = rd_T63 l i :: l.drop (i + 1).toNat := drop_get l i h0 h1 z63
theorem prevN_next (l : List (S63)) (i : Int) (h : 0 ≤ i) : prevN l (i + 1) = some (rd_T63 l i).f0 := by
  rw [prevN, if_neg (by omega), show i + 1 - 1 = i by omega]
theorem pDiskL_bad {o : Option ByteArray} {f : S63} {l : List (S63)} (h : pFile f = false) : pDiskL o (f :: l) = false := by
  cases o <;> simp [pDiskL, h]

def pKeptL (l : List (S63)) : Bool := l.all fun f => decide (f.f2 = f.f1.size)
def pAllKept (l : List (S63)) : Bool := pKeptL l && pDiskOk l
theorem pKeptL_cons (f : S63) (l : List (S63)) : pKeptL (f :: l) = (decide (f.f2 = f.f1.size) && pKeptL l) := by simp [pKeptL]
theorem pDiskL_files : ∀ (l : List (S63)) (o : Option ByteArray), pDiskL o l = true → ∀ f ∈ l, pFile f = true := by
  intro l
  induction l with
  | nil => intro o _ f hf; simp at hf
  | cons g l ih =>
    intro o h f hf
    have hg : pFile g = true ∧ pDiskL (some g.f0) l = true := by
      cases o <;> simp only [pDiskL, Bool.and_eq_true] at h
      · exact h
      · exact ⟨h.1.1, h.2⟩
    rcases List.mem_cons.1 hf with rfl | hf
    · exact hg.1
    · exact ih _ hg.2 f hf
theorem pDiskOk_files {l : List (S63)} (h : pDiskOk l = true) : l.length ≤ 30 ∧ ∀ f ∈ l, (1 ≤ f.f0.size ∧ f.f0.size ≤ 8) ∧ f.f1.size ≤ 20000 ∧ 0 ≤ f.f2 ∧ f.f2 ≤ f.f1.size := by
  simp only [pDiskOk, Bool.and_eq_true, decide_eq_true_eq] at h
  refine ⟨h.1, fun f hf => ?_⟩
  have := pDiskL_files l none h.2 f hf
  simp only [pFile, Bool.and_eq_true, decide_eq_true_eq] at this
  exact ⟨this.1.1, this.1.2, this.2⟩

theorem impl_within_ev (a b c : Int) : Ev (fun _ => impl_within.f a b c) (decide (b ≤ a ∧ a ≤ c)) := by
  apply ev_const
  unfold impl_within.f
  by_cases h : a ≥ b
  · rw [if_pos h]; simp [show b ≤ a from h]
  · rw [if_neg h]; simp [show ¬ b ≤ a from h]

theorem impl_ReadVar_i5 (s : ByteArray) (at_ n : Int) (l : List Int) (sc : Int) : Ev (fun k => impl_ReadVar.l0 k s at_ n 5) (rvOut (at_ + 5) (rvF 0 sc n false l)) := by
  apply ev_succ
  simp only [impl_ReadVar.l0, show ¬ (5 : Int) < 5 by decide, if_false]
  apply ev_succ
  simp only [impl_ReadVar.j1, Bool.false_eq_true, if_false]
  exact Ev.now _
theorem impl_ReadVar_i4 (s : ByteArray) (hs : s.size ≤ 140737488351232) (at_ : Int) (h0 : 0 ≤ at_) (h1 : at_ ≤ s.size) (n : Int) (hn0 : 0 ≤ n) (hn : n < 268435456) :
    Ev (fun k => impl_ReadVar.l0 k s at_ n 4) (rvOut (at_ + 4) (rvF 1 268435456 n false ((bytesOf s).drop (at_ + 4).toNat))) := by
  apply ev_succ
  have e1 : wrap64 (at_ + 4) = at_ + 4 := w64 (by omega) (by omega)
  simp only [impl_ReadVar.l0, show (4 : Int) < 5 by decide, if_true, e1]
  apply ev_succ
  by_cases c : at_ + 4 < (s.size : Int)
  · rw [drop_bt s (at_ + 4) (by omega) c]
    have br := bt_range s (at_ + 4)
    have e0 : 0 ≤ at_ + 4 := by omega
    have e7 : (at_ + 4 + 1).toNat = (at_ + 5).toNat := by omega
    rw [e7]
    simp only [impl_ReadVar.j1, c, decide_true, if_true, e0, e1]
    have hnext := fun (m : Int) (_ _ : True) => impl_ReadVar_i5 s at_ m ((bytesOf s).drop (at_ + 5).toNat) 34359738368
    generalize bt s (at_ + 4) = b at br hnext ⊢
    have e2 : wrap64 b = b := w64 (by omega) (by omega)
    have e3 : Int.tmod b 128 = b % 128 := Int.tmod_eq_emod_of_nonneg (by omega)
    have e4 : wrap64 (7 * 4) = 28 := wlit (by decide) (by decide) (by decide)
    have e5 : shl .i64 (b % 128) 28 = b % 128 * 268435456 := shl7 (b % 128) 28 (by omega) (by omega) (by decide)
    have e6 : wrap64 (n + b % 128 * 268435456) = n + b % 128 * 268435456 := w64 (by omega) (by omega)
    have e8 : wrap64 (4 + 1) = 5 := wlit (by decide) (by decide) (by decide)
    have e9 : wrap64 (at_ + 4 + 1) = at_ + 4 + 1 := w64 (by omega) (by omega)
    simp only [if_true, e1, e2, e3, e4, e5, e6, e8, e9, show (0 : Int) ≤ 28 by decide, show (4 : Int) > 0 by decide]
    by_cases hb : b > 127
    · have hh := hnext (n + b % 128 * 268435456) trivial trivial
      rw [rvF_more hb, rvOut_map]
      simp only [hb, if_true]
      simpa only [show at_ + 4 + 1 = at_ + 5 by omega, show (268435456 : Int) * 128 = 34359738368 by decide] using hh
    · by_cases hz : b = 0
      · rw [rvF_stop hb (Or.inl ⟨rfl, hz⟩)]
        simp only [hb, hz, if_true, if_false]
        exact Ev.now _
      · by_cases hg : n + b % 128 * 268435456 > 1000000000
        · rw [rvF_stop hb (Or.inr hg)]
          simp only [hb, hz, hg, if_true, if_false]
          exact Ev.now _
        · rw [rvF_take hb (by simp [hz]) hg]
          simp only [hb, hz, hg, if_false]
          exact Ev.now _
  · simp only [impl_ReadVar.j1, c, decide_false, Bool.false_eq_true, if_false]
    rw [List.drop_of_length_le (by rw [bytes_len]; omega)]
    exact Ev.now _
theorem impl_ReadVar_i3 (s : ByteArray) (hs : s.size ≤ 140737488351232) (at_ : Int) (h0 : 0 ≤ at_) (h1 : at_ ≤ s.size) (n : Int) (hn0 : 0 ≤ n) (hn : n < 2097152) :
    Ev (fun k => impl_ReadVar.l0 k s at_ n 3) (rvOut (at_ + 3) (rvF 2 2097152 n false ((bytesOf s).drop (at_ + 3).toNat))) := by
  apply ev_succ
  have e1 : wrap64 (at_ + 3) = at_ + 3 := w64 (by omega) (by omega)
  simp only [impl_ReadVar.l0, show (3 : Int) < 5 by decide, if_true, e1]
  apply ev_succ
  by_cases c : at_ + 3 < (s.size : Int)
  · rw [drop_bt s (at_ + 3) (by omega) c]
    have br := bt_range s (at_ + 3)
    have e0 : 0 ≤ at_ + 3 := by omega
    have e7 : (at_ + 3 + 1).toNat = (at_ + 4).toNat := by omega
    rw [e7]
    simp only [impl_ReadVar.j1, c, decide_true, if_true, e0, e1]
    have hnext := fun (m : Int) (hm0 : 0 ≤ m) (hm : m < 268435456) => impl_ReadVar_i4 s hs at_ h0 h1 m hm0 hm
    generalize bt s (at_ + 3) = b at br hnext ⊢
    have e2 : wrap64 b = b := w64 (by omega) (by omega)
    have e3 : Int.tmod b 128 = b % 128 := Int.tmod_eq_emod_of_nonneg (by omega)
    have e4 : wrap64 (7 * 3) = 21 := wlit (by decide) (by decide) (by decide)
    have e5 : shl .i64 (b % 128) 21 = b % 128 * 2097152 := shl7 (b % 128) 21 (by omega) (by omega) (by decide)
    have e6 : wrap64 (n + b % 128 * 2097152) = n + b % 128 * 2097152 := w64 (by omega) (by omega)
    have e8 : wrap64 (3 + 1) = 4 := wlit (by decide) (by decide) (by decide)
    have e9 : wrap64 (at_ + 3 + 1) = at_ + 3 + 1 := w64 (by omega) (by omega)
    simp only [if_true, e1, e2, e3, e4, e5, e6, e8, e9, show (0 : Int) ≤ 21 by decide, show (3 : Int) > 0 by decide]
    by_cases hb : b > 127
    · have hh := hnext (n + b % 128 * 2097152) (by omega) (by omega)
      rw [rvF_more hb, rvOut_map]
      simp only [hb, if_true]
      simpa only [show at_ + 3 + 1 = at_ + 4 by omega, show (2097152 : Int) * 128 = 268435456 by decide] using hh
    · by_cases hz : b = 0
      · rw [rvF_stop hb (Or.inl ⟨rfl, hz⟩)]
        simp only [hb, hz, if_true, if_false]
        exact Ev.now _
      · by_cases hg : n + b % 128 * 2097152 > 1000000000
        · rw [rvF_stop hb (Or.inr hg)]
          simp only [hb, hz, hg, if_true, if_false]
          exact Ev.now _
        · rw [rvF_take hb (by simp [hz]) hg]
          simp only [hb, hz, hg, if_false]
          exact Ev.now _
  · simp only [impl_ReadVar.j1, c, decide_false, Bool.false_eq_true, if_false]
    rw [List.drop_of_length_le (by rw [bytes_len]; omega)]
    exact Ev.now _
theorem impl_ReadVar_i2 (s : ByteArray) (hs : s.size ≤ 140737488351232) (at_ : Int) (h0 : 0 ≤ at_) (h1 : at_ ≤ s.size) (n : Int) (hn0 : 0 ≤ n) (hn : n < 16384) :
    Ev (fun k => impl_ReadVar.l0 k s at_ n 2) (rvOut (at_ + 2) (rvF 3 16384 n false ((bytesOf s).drop (at_ + 2).toNat))) := by
  apply ev_succ
  have e1 : wrap64 (at_ + 2) = at_ + 2 := w64 (by omega) (by omega)
  simp only [impl_ReadVar.l0, show (2 : Int) < 5 by decide, if_true, e1]
  apply ev_succ
  by_cases c : at_ + 2 < (s.size : Int)
  · rw [drop_bt s (at_ + 2) (by omega) c]
    have br := bt_range s (at_ + 2)
    have e0 : 0 ≤ at_ + 2 := by omega
    have e7 : (at_ + 2 + 1).toNat = (at_ + 3).toNat := by omega
    rw [e7]
    simp only [impl_ReadVar.j1, c, decide_true, if_true, e0, e1]
    have hnext := fun (m : Int) (hm0 : 0 ≤ m) (hm : m < 2097152) => impl_ReadVar_i3 s hs at_ h0 h1 m hm0 hm
    generalize bt s (at_ + 2) = b at br hnext ⊢
    have e2 : wrap64 b = b := w64 (by omega) (by omega)
    have e3 : Int.tmod b 128 = b % 128 := Int.tmod_eq_emod_of_nonneg (by omega)
    have e4 : wrap64 (7 * 2) = 14 := wlit (by decide) (by decide) (by decide)
    have e5 : shl .i64 (b % 128) 14 = b % 128 * 16384 := shl7 (b % 128) 14 (by omega) (by omega) (by decide)
    have e6 : wrap64 (n + b % 128 * 16384) = n + b % 128 * 16384 := w64 (by omega) (by omega)
    have e8 : wrap64 (2 + 1) = 3 := wlit (by decide) (by decide) (by decide)
    have e9 : wrap64 (at_ + 2 + 1) = at_ + 2 + 1 := w64 (by omega) (by omega)
    simp only [if_true, e1, e2, e3, e4, e5, e6, e8, e9, show (0 : Int) ≤ 14 by decide, show (2 : Int) > 0 by decide]
    by_cases hb : b > 127
    · have hh := hnext (n + b % 128 * 16384) (by omega) (by omega)
      rw [rvF_more hb, rvOut_map]
      simp only [hb, if_true]
      simpa only [show at_ + 2 + 1 = at_ + 3 by omega, show (16384 : Int) * 128 = 2097152 by decide] using hh
    · by_cases hz : b = 0
      · rw [rvF_stop hb (Or.inl ⟨rfl, hz⟩)]
        simp only [hb, hz, if_true, if_false]
        exact Ev.now _
      · by_cases hg : n + b % 128 * 16384 > 1000000000
        · rw [rvF_stop hb (Or.inr hg)]
          simp only [hb, hz, hg, if_true, if_false]
          exact Ev.now _
        · rw [rvF_take hb (by simp [hz]) hg]
          simp only [hb, hz, hg, if_false]
          exact Ev.now _
  · simp only [impl_ReadVar.j1, c, decide_false, Bool.false_eq_true, if_false]
    rw [List.drop_of_length_le (by rw [bytes_len]; omega)]
    exact Ev.now _
theorem impl_ReadVar_i1 (s : ByteArray) (hs : s.size ≤ 140737488351232) (at_ : Int) (h0 : 0 ≤ at_) (h1 : at_ ≤ s.size) (n : Int) (hn0 : 0 ≤ n) (hn : n < 128) :
    Ev (fun k => impl_ReadVar.l0 k s at_ n 1) (rvOut (at_ + 1) (rvF 4 128 n false ((bytesOf s).drop (at_ + 1).toNat))) := by
  apply ev_succ
  have e1 : wrap64 (at_ + 1) = at_ + 1 := w64 (by omega) (by omega)
  simp only [impl_ReadVar.l0, show (1 : Int) < 5 by decide, if_true, e1]
  apply ev_succ
  by_cases c : at_ + 1 < (s.size : Int)
  · rw [drop_bt s (at_ + 1) (by omega) c]
    have br := bt_range s (at_ + 1)
    have e0 : 0 ≤ at_ + 1 := by omega
    have e7 : (at_ + 1 + 1).toNat = (at_ + 2).toNat := by omega
    rw [e7]
    simp only [impl_ReadVar.j1, c, decide_true, if_true, e0, e1]
    have hnext := fun (m : Int) (hm0 : 0 ≤ m) (hm : m < 16384) => impl_ReadVar_i2 s hs at_ h0 h1 m hm0 hm
    generalize bt s (at_ + 1) = b at br hnext ⊢
    have e2 : wrap64 b = b := w64 (by omega) (by omega)
    have e3 : Int.tmod b 128 = b % 128 := Int.tmod_eq_emod_of_nonneg (by omega)
    have e4 : wrap64 (7 * 1) = 7 := wlit (by decide) (by decide) (by decide)
    have e5 : shl .i64 (b % 128) 7 = b % 128 * 128 := shl7 (b % 128) 7 (by omega) (by omega) (by decide)
    have e6 : wrap64 (n + b % 128 * 128) = n + b % 128 * 128 := w64 (by omega) (by omega)
    have e8 : wrap64 (1 + 1) = 2 := wlit (by decide) (by decide) (by decide)
    have e9 : wrap64 (at_ + 1 + 1) = at_ + 1 + 1 := w64 (by omega) (by omega)
    simp only [if_true, e1, e2, e3, e4, e5, e6, e8, e9, show (0 : Int) ≤ 7 by decide, show (1 : Int) > 0 by decide]
    by_cases hb : b > 127
    · have hh := hnext (n + b % 128 * 128) (by omega) (by omega)
      rw [rvF_more hb, rvOut_map]
      simp only [hb, if_true]
      simpa only [show at_ + 1 + 1 = at_ + 2 by omega, show (128 : Int) * 128 = 16384 by decide] using hh
    · by_cases hz : b = 0
      · rw [rvF_stop hb (Or.inl ⟨rfl, hz⟩)]
        simp only [hb, hz, if_true, if_false]
        exact Ev.now _
      · by_cases hg : n + b % 128 * 128 > 1000000000
        · rw [rvF_stop hb (Or.inr hg)]
          simp only [hb, hz, hg, if_true, if_false]
          exact Ev.now _
        · rw [rvF_take hb (by simp [hz]) hg]
          simp only [hb, hz, hg, if_false]
          exact Ev.now _
  · simp only [impl_ReadVar.j1, c, decide_false, Bool.false_eq_true, if_false]
    rw [List.drop_of_length_le (by rw [bytes_len]; omega)]
    exact Ev.now _
theorem impl_ReadVar_i0 (s : ByteArray) (hs : s.size ≤ 140737488351232) (at_ : Int) (h0 : 0 ≤ at_) (h1 : at_ ≤ s.size) (n : Int) (hn0 : 0 ≤ n) (hn : n < 1) :
    Ev (fun k => impl_ReadVar.l0 k s at_ n 0) (rvOut (at_ + 0) (rvF 5 1 n true ((bytesOf s).drop (at_ + 0).toNat))) := by
  apply ev_succ
  have e1 : wrap64 (at_ + 0) = at_ + 0 := w64 (by omega) (by omega)
  simp only [impl_ReadVar.l0, show (0 : Int) < 5 by decide, if_true, e1]
  apply ev_succ
  by_cases c : at_ + 0 < (s.size : Int)
  · rw [drop_bt s (at_ + 0) (by omega) c]
    have br := bt_range s (at_ + 0)
    have e0 : 0 ≤ at_ + 0 := by omega
    have e7 : (at_ + 0 + 1).toNat = (at_ + 1).toNat := by omega
    rw [e7]
    simp only [impl_ReadVar.j1, c, decide_true, if_true, e0, e1]
    have hnext := fun (m : Int) (hm0 : 0 ≤ m) (hm : m < 128) => impl_ReadVar_i1 s hs at_ h0 h1 m hm0 hm
    generalize bt s (at_ + 0) = b at br hnext ⊢
    have e2 : wrap64 b = b := w64 (by omega) (by omega)
    have e3 : Int.tmod b 128 = b % 128 := Int.tmod_eq_emod_of_nonneg (by omega)
    have e4 : wrap64 (7 * 0) = 0 := wlit (by decide) (by decide) (by decide)
    have e5 : shl .i64 (b % 128) 0 = b % 128 * 1 := shl7 (b % 128) 0 (by omega) (by omega) (by decide)
    have e6 : wrap64 (n + b % 128 * 1) = n + b % 128 * 1 := w64 (by omega) (by omega)
    have e8 : wrap64 (0 + 1) = 1 := wlit (by decide) (by decide) (by decide)
    have e9 : wrap64 (at_ + 0 + 1) = at_ + 0 + 1 := w64 (by omega) (by omega)
    simp only [if_true, e1, e2, e3, e4, e5, e6, e8, e9, show (0 : Int) ≤ 0 by decide, show ¬ (0 : Int) > 0 by decide, if_false]
    by_cases hb : b > 127
    · have hh := hnext (n + b % 128 * 1) (by omega) (by omega)
      rw [rvF_more hb, rvOut_map]
      simp only [hb, if_true]
      simpa only [show at_ + 0 + 1 = at_ + 1 by omega, show (1 : Int) * 128 = 128 by decide] using hh
    · by_cases hg : n + b % 128 * 1 > 1000000000
      · rw [rvF_stop hb (Or.inr hg)]
        simp only [hb, hg, if_true, if_false]
        exact Ev.now _
      · rw [rvF_take hb (by simp) hg]
        simp only [hb, hg, if_false]
        exact Ev.now _
  · simp only [impl_ReadVar.j1, c, decide_false, Bool.false_eq_true, if_false]
    rw [List.drop_of_length_le (by rw [bytes_len]; omega)]
    exact Ev.now _
theorem impl_ReadVar_ev (s : ByteArray) (hs : s.size ≤ 140737488351232) (at_ : Int) : Ev (fun k => impl_ReadVar.f k s at_) (pReadVar s at_) := by
  simp only [impl_ReadVar.f]
  refine Ev.bind (impl_within_ev _ _ _) ?_
  by_cases h : 0 ≤ at_ ∧ at_ ≤ (s.size : Int)
  · simp only [h, and_self, decide_true, if_true]
    rw [pReadVar_in h]
    have hh := impl_ReadVar_i0 s hs at_ h.1 h.2 0 (by decide) (by decide)
    simpa only [Int.add_zero] using hh
  · simp only [h, decide_false, Bool.false_eq_true, if_false]
    rw [pReadVar_out h]
    exact Ev.now _

theorem impl_scan_number_ev (s : ByteArray) (hs : s.size ≤ 140737488351232) (a : Int) (b : Bool) : Ev (fun k => impl_scan_number.f k s a b) ((curVar s a b).1, s, (curVar s a b).2.1, (curVar s a b).2.2) := by
  simp only [impl_scan_number.f]
  refine Ev.bind (impl_ReadVar_ev s hs a) ?_
  unfold curVar
  cases b with
  | true => simp only [if_true]; exact Ev.now _
  | false =>
    by_cases h : (pReadVar s a).2.2 = true
    · simp only [Bool.false_eq_true, if_false, h, if_true]; exact Ev.now _
    · simp only [Bool.false_eq_true, if_false, h]; exact Ev.now _
theorem impl_scan_done_ev (s : ByteArray) (a : Int) (b : Bool) : Ev (fun _ => impl_scan_done.f s a b) (!b && (a == (s.size : Int)), s, a, b) := by
  apply ev_const
  cases b <;> simp [impl_scan_done.f]

theorem impl_ReadShort_ev (s : ByteArray) (hs : s.size ≤ 140737488351232) (at_ : Int) : Ev (fun k => impl_ReadShort.f k s at_) (pReadShort s at_) := by
  simp only [impl_ReadShort.f]
  refine Ev.bind (impl_ReadVar_ev s hs at_) ?_
  cases ho : (pReadVar s at_).2.2 with
  | false =>
    rw [pReadShort_no (by rw [ho]; simp)]
    simp only [Bool.false_eq_true, if_false]
    exact Ev.now _
  | true =>
    have hk := pReadVar_ok s at_ ho
    have e1 : wrap64 ((s.size : Int) - (pReadVar s at_).2.1) = s.size - (pReadVar s at_).2.1 := w64 (by omega) (by omega)
    have e2 : wrap64 ((pReadVar s at_).2.1 + (pReadVar s at_).1) = (pReadVar s at_).2.1 + (pReadVar s at_).1 := w64 (by omega) (by omega)
    simp only [if_true, e1, e2]
    by_cases c1 : (pReadVar s at_).1 > 20000
    · rw [pReadShort_no (by omega)]
      simp only [c1, if_true]
      exact Ev.now _
    · by_cases c2 : (pReadVar s at_).1 > s.size - (pReadVar s at_).2.1
      · rw [pReadShort_no (by omega)]
        simp only [c1, c2, if_true, if_false]
        exact Ev.now _
      · have k1 : 0 ≤ (pReadVar s at_).2.1 := by omega
        have k2 : (pReadVar s at_).2.1 ≤ (pReadVar s at_).2.1 + (pReadVar s at_).1 := by omega
        have k3 : (pReadVar s at_).2.1 + (pReadVar s at_).1 ≤ (s.size : Int) := by omega
        rw [pReadShort_yes ⟨ho, by omega, by omega⟩]
        simp only [c1, c2, k1, k2, k3, if_true, if_false]
        exact Ev.now _

theorem impl_SumMore_l1 (s : ByteArray) (i : Int) (h0 : 0 ≤ i) (h1 : i < s.size) (hs : s.size ≤ 140737488351232) (r : Int) : ∀ (m : Nat) (j x : Int), 0 ≤ j → j + m = 8 →
    Ev (fun k => impl_SumMore.l0 k (crcK m x) s (i + 1)) r → Ev (fun k => impl_SumMore.l1 k x s i j) r := by
  intro m
  induction m with
  | zero =>
    intro j x hj hm h
    apply ev_succ
    have c : ¬ j < 8 := by omega
    have e : wrap64 (i + 1) = i + 1 := w64 (by omega) (by omega)
    simp only [impl_SumMore.l1, c, if_false, e]
    exact h
  | succ m ih =>
    intro j x hj hm h
    apply ev_succ
    have c : j < 8 := by omega
    have e : wrap64 (j + 1) = j + 1 := w64 (by omega) (by omega)
    have hh := ih (j + 1) (crc1 x) (by omega) (by omega) h
    by_cases o : Int.tmod x 2 = 1
    · simp only [crc1, o, if_true] at hh
      simp only [impl_SumMore.l1, c, o, if_true, e]
      exact hh
    · simp only [crc1, o, if_false] at hh
      simp only [impl_SumMore.l1, c, o, if_true, if_false, e]
      exact hh
theorem impl_SumMore_l0 (s : ByteArray) (hs : s.size ≤ 140737488351232) : ∀ (d : Nat) (i : Int) (x : Int), 0 ≤ i → i + d = s.size →
    Ev (fun k => impl_SumMore.l0 k x s i) (crcL x ((bytesOf s).drop i.toNat)) := by
  intro d
  induction d with
  | zero =>
    intro i x h0 h
    apply ev_succ
    have c : ¬ i < (s.size : Int) := by omega
    simp only [impl_SumMore.l0, c, if_false]
    apply ev_some
    rw [List.drop_of_length_le (by rw [bytes_len]; omega)]; rfl
  | succ d ih =>
    intro i x h0 h
    apply ev_succ
    have c : i < (s.size : Int) := by omega
    simp only [impl_SumMore.l0, c, h0, if_true]
    have hh := ih (i + 1) (crcB x (bt s i)) (by omega) (by omega)
    rw [drop_bt s i h0 c]
    exact impl_SumMore_l1 s i h0 c hs _ 8 0 _ (by omega) (by omega) hh
theorem impl_SumMore_ev (x : Int) (s : ByteArray) (hs : s.size ≤ 140737488351232) : Ev (fun k => impl_SumMore.f k x s) (crcL x (bytesOf s)) := by
  simp only [impl_SumMore.f]
  exact impl_SumMore_l0 s hs s.size 0 x (by omega) (by omega)

theorem impl_SumOf_ev (s : ByteArray) (hs : s.size ≤ 140737488351232) : Ev (fun k => impl_SumOf.f k s) (sumN s) := by
  simp only [impl_SumOf.f]
  exact Ev.bind (impl_SumMore_ev _ s hs) (Ev.now _)

theorem impl_highFirst_ev (x : Int) (h0 : 0 ≤ x) (h1 : x < 4294967296) : Ev (fun k => impl_highFirst.f k x 4) (strOfNums (four x)) := by
  have a1 : Go.bits .and .i64 x 255 = x % 256 := bits_and255 x h0 (by omega)
  have a2 : Go.bits .and .i64 (x / 256) 255 = x / 256 % 256 := bits_and255 _ (by omega) (by omega)
  have a3 : Go.bits .and .i64 (x / 256 / 256) 255 = x / 256 / 256 % 256 := bits_and255 _ (by omega) (by omega)
  have a4 : Go.bits .and .i64 (x / 256 / 256 / 256) 255 = x / 256 / 256 / 256 % 256 := bits_and255 _ (by omega) (by omega)
  have w1 : wrap64 (4 - 1) = 3 := wlit (by decide) (by decide) (by decide)
  have w2 : wrap64 (3 - 1) = 2 := wlit (by decide) (by decide) (by decide)
  have w3 : wrap64 (2 - 1) = 1 := wlit (by decide) (by decide) (by decide)
  have w4 : wrap64 (1 - 1) = 0 := wlit (by decide) (by decide) (by decide)
  have w5 : wrap64 (0 - 1) = -1 := wlit (by decide) (by decide) (by decide)
  simp only [impl_highFirst.f, show (0 : Int) ≤ 4 by decide, show (4 : Int).toNat ≤ 281474976710656 by decide, if_true, w1]
  apply ev_succ
  simp only [impl_highFirst.l0, show (3 : Int) ≥ 0 by decide, show (0 : Int) ≤ 3 by decide, show (3 : Int) < ((List.replicate (4 : Int).toNat (0 : Int)).length : Int) by decide, if_true, w2, a1]
  apply ev_succ
  simp only [impl_highFirst.l0, show (2 : Int) ≥ 0 by decide, show (0 : Int) ≤ 2 by decide, List.length_set, show (2 : Int) < ((List.replicate (4 : Int).toNat (0 : Int)).length : Int) by decide, if_true, w3, a2]
  apply ev_succ
  simp only [impl_highFirst.l0, show (1 : Int) ≥ 0 by decide, show (0 : Int) ≤ 1 by decide, List.length_set, show (1 : Int) < ((List.replicate (4 : Int).toNat (0 : Int)).length : Int) by decide, if_true, w4, a3]
  apply ev_succ
  simp only [impl_highFirst.l0, show (0 : Int) ≥ 0 by decide, show (0 : Int) ≤ 0 by decide, List.length_set, show (0 : Int) < ((List.replicate (4 : Int).toNat (0 : Int)).length : Int) by decide, if_true, w5, a4]
  apply ev_succ
  simp only [impl_highFirst.l0, show ¬ (-1 : Int) ≥ 0 by decide, if_false]
  apply ev_some
  show strOfNums [x / 256 / 256 / 256 % 256 % 256, x / 256 / 256 % 256 % 256, x / 256 % 256 % 256, x % 256 % 256] = strOfNums (four x)
  unfold four
  congr 1
  simp only [List.cons.injEq, and_true]
  omega
theorem impl_Sealed_ev (s : ByteArray) (hs : s.size ≤ 140737488351232) : Ev (fun k => impl_Sealed.f k s) (pSealed s) := by
  simp only [impl_Sealed.f]
  by_cases h : (s.size : Int) > 20000
  · simp only [h, if_true]
    rw [pSealed_no (by omega)]
    exact Ev.now _
  · simp only [h, if_false]
    refine Ev.bind (impl_SumOf_ev s hs) ?_
    have hr := sumN_range s
    have e : wrap64 (sumN s) = sumN s := w64 (by omega) (by omega)
    simp only [e]
    refine Ev.bind (impl_highFirst_ev _ hr.1 hr.2) ?_
    have c : s.size + (strOfNums (four (sumN s))).size ≤ 9223372036854775807 := by rw [str_len]; simp [four]; omega
    simp only [c, if_true]
    rw [pSealed_yes (by omega)]
    exact Ev.now _

theorem impl_Unsealed_ev (t : ByteArray) (ht : t.size ≤ 140737488351232) : Ev (fun k => impl_Unsealed.f k t) (pUnsealed t) := by
  simp only [impl_Unsealed.f]
  by_cases h : t.size < 4
  · have c : wrap64 ((t.size : Int) - 4) < 0 := by rw [w64 (by omega) (by omega)]; omega
    simp only [c, if_true]
    rw [pUnsealed_no (by omega)]
    exact Ev.now _
  · have e : wrap64 ((t.size : Int) - 4) = ((t.size - 4 : Nat) : Int) := by rw [w64 (by omega) (by omega)]; omega
    have c1 : ¬ ((t.size - 4 : Nat) : Int) < 0 := by omega
    have c2 : 0 ≤ ((t.size - 4 : Nat) : Int) := by omega
    have c3 : ((t.size - 4 : Nat) : Int) ≤ (t.size : Int) := by omega
    simp only [e, c1, c2, c3, if_true, if_false, Int.toNat_natCast]
    have hz : (t.extract 0 (t.size - 4)).size = t.size - 4 := by rw [size_ext]; omega
    refine Ev.bind (impl_Sealed_ev _ (by omega)) ?_
    by_cases h2 : t.size ≤ 20004
    · rw [pSealed_yes (by omega)]
      simp only [if_true, toList_iff]
      by_cases h3 : sealB (t.extract 0 (t.size - 4)) = t
      · simp only [h3, if_true]
        rw [pUnsealed_yes ⟨by omega, h2, h3.symm⟩]
        exact Ev.now _
      · simp only [h3, if_false]
        rw [pUnsealed_no (fun h => h3 h.2.2.symm)]
        exact Ev.now _
    · rw [pSealed_no (by omega)]
      simp only [Bool.false_eq_true, if_false]
      rw [pUnsealed_no (by omega)]
      exact Ev.now _

theorem impl_isNode_ev (x : Int) : Ev (fun _ => impl_isNode.f x) (decide (1 ≤ x ∧ x ≤ 4)) := by
  simp only [impl_isNode.f]
  exact Ev.bind (impl_within_ev _ _ _) (Ev.now _)
theorem impl_nodesOk_l0 (l : List Int) (hl : l.length ≤ 35184372088832) : ∀ (d : Nat) (i : Int), 0 ≤ i → i + d = l.length →
    Ev (fun k => impl_nodesOk.l0 k l l (l.length : Int) i) (rise 1 4 (prev l i) (l.drop i.toNat)) := by
  intro d
  induction d with
  | zero =>
    intro i h0 h
    apply ev_succ
    have c : ¬ i < (l.length : Int) := by omega
    simp only [impl_nodesOk.l0, c, if_false]
    apply ev_some
    rw [List.drop_of_length_le (by omega)]; simp [rise]
  | succ d ih =>
    intro i h0 h
    apply ev_succ
    have c : i < (l.length : Int) := by omega
    have e5 : wrap64 (i + 1) = i + 1 := w64 (by omega) (by omega)
    have e6 : wrap64 (i - 1) = i - 1 := w64 (by omega) (by omega)
    simp only [impl_nodesOk.l0, c, h0, if_true, e5, e6]
    refine Ev.bind (impl_isNode_ev _) ?_
    have hh := ih (i + 1) (by omega) (by omega)
    have hp : prev l (i + 1) = some (rd l i) := by rw [prev, if_neg (by omega)]; congr 2; omega
    rw [hp] at hh
    rw [drop_rd l i h0 c]
    by_cases hb : 1 ≤ rd l i ∧ rd l i ≤ 4
    · simp only [hb, and_self, decide_true, if_true]
      by_cases hi : i > 0
      · have k1 : 0 ≤ i - 1 := by omega
        have k2 : i - 1 < (l.length : Int) := by omega
        simp only [hi, k1, k2, if_true]
        rw [prev, if_neg (by omega)]
        by_cases hq : rd l (i - 1) ≥ rd l i
        · simp only [hq, if_true]
          apply ev_some
          simp [rise, show ¬ rd l (i - 1) < rd l i by omega]
        · simp only [hq, if_false]
          simpa [rise, hb, show rd l (i - 1) < rd l i by omega] using hh
      · simp only [hi, if_false]
        rw [prev, if_pos (by omega)]
        simpa [rise, hb] using hh
    · simp only [hb, decide_false, Bool.false_eq_true, if_false]
      apply ev_some
      cases prev l i <;> simp [rise, hb]
theorem impl_nodesOk_ev (l : List Int) (hl : l.length ≤ 35184372088832) : Ev (fun k => impl_nodesOk.f k l) (rise 1 4 none l) := by
  simp only [impl_nodesOk.f]
  have := impl_nodesOk_l0 l hl l.length 0 (by omega) (by omega)
  simpa [prev] using this
theorem impl_ConfOk_ev (l : List Int) (hl : l.length ≤ 35184372088832) : Ev (fun k => impl_ConfOk.f k l) (pConfOk l) := by
  simp only [impl_ConfOk.f]
  by_cases h : (l.length : Int) > 0
  · simp only [h, if_true]
    rw [pConfOk, decide_eq_true (by omega), Bool.true_and]
    exact Ev.bind (impl_nodesOk_ev l hl) (Ev.now _)
  · simp only [h, if_false]
    rw [pConfOk, decide_eq_false (by omega), Bool.false_and]
    exact Ev.now _

theorem impl_ReadConf_ev (s : ByteArray) (hs : s.size ≤ 1048576) : Ev (fun k => impl_ReadConf.f k s) (pReadConf s) := by
  simp only [impl_ReadConf.f]
  have key := loop_up (fun k (x : List Int) i => impl_ReadConf.l0 k s x i) (s.size : Int) (pReadConf s) (fun x i => x = (bytesOf s).take i.toNat)
    (fun x hx => by
      rw [List.take_of_length_le (by rw [bytes_len]; omega)] at hx
      subst hx
      have c : ¬ (s.size : Int) < (s.size : Int) := by omega
      simp only [impl_ReadConf.l0, c, if_false]
      refine Ev.bind (impl_ConfOk_ev _ (by rw [bytes_len]; omega)) ?_
      by_cases h : pConfOk (bytesOf s) = true
      · simp only [h, if_true]
        rw [pReadConf_yes h]
        exact Ev.now _
      · simp only [h, if_false]
        rw [pReadConf_no h]
        exact Ev.now _)
    (fun x i h0 h1 hx ih => by
      have hxl : x.length ≤ s.size := by rw [hx, List.length_take, bytes_len]; omega
      have c3 : x.length < 17592186044416 := by omega
      have br := bt_range s i
      have e1 : wrap64 (bt s i) = bt s i := w64 (by omega) (by omega)
      have e2 : wrap64 (i + 1) = i + 1 := w64 (by omega) (by omega)
      simp only [impl_ReadConf.l0, h1, h0, c3, if_true, e1, e2]
      refine ih _ ?_
      rw [take_snoc_rd _ i h0 (by rw [bytes_len]; exact h1), hx, bt_rd]
      rfl)
  exact key s.size 0 [] (by omega) (by omega) (by simp)

theorem impl_isIndex_ev (x : Int) : Ev (fun _ => impl_isIndex.f x) (decide (0 ≤ x ∧ x ≤ 1000000)) := by
  simp only [impl_isIndex.f]
  exact Ev.bind (impl_within_ev _ _ _) (Ev.now _)

theorem impl_isTerm_ev (x : Int) : Ev (fun _ => impl_isTerm.f x) (decide (0 ≤ x ∧ x ≤ 100000)) := by
  simp only [impl_isTerm.f]
  exact Ev.bind (impl_within_ev _ _ _) (Ev.now _)

theorem impl_scan_short_ev (s : ByteArray) (hs : s.size ≤ 140737488351232) (a : Int) (b : Bool) : Ev (fun k => impl_scan_short.f k s a b) ((curShI s a b).1, s, (curShI s a b).2.1, (curShI s a b).2.2) := by
  simp only [impl_scan_short.f]
  refine Ev.bind (impl_ReadShort_ev s hs a) ?_
  unfold curShI
  cases b with
  | true => simp only [if_true]; exact Ev.now _
  | false =>
    by_cases h : (pReadShort s a).2.2 = true
    · simp only [Bool.false_eq_true, if_false, h, if_true]; exact Ev.now _
    · simp only [Bool.false_eq_true, if_false, h]; exact Ev.now _
theorem pUnsealed_size (t : ByteArray) : (pUnsealed t).1.size ≤ t.size := by
  unfold pUnsealed
  split
  · rw [size_ext]; omega
  · exact Nat.zero_le _
theorem impl_ReadSnap_ev (t : ByteArray) (ht : t.size ≤ 1048576) : Ev (fun k => impl_ReadSnap.f k t) (snapI t) := by
  simp only [impl_ReadSnap.f]
  unfold snapI
  simp only
  refine Ev.bind (impl_Unsealed_ev t (by omega)) ?_
  have hsz := pUnsealed_size t
  obtain ⟨s, ok, hu⟩ : ∃ s ok, pUnsealed t = (s, ok) := ⟨_, _, rfl⟩
  rw [hu] at hsz ⊢
  simp only at hsz ⊢
  have hs : s.size ≤ 140737488351232 := by omega
  refine Ev.bind (impl_scan_number_ev s hs 0 (!ok)) ?_
  obtain ⟨x1, a1, b1, e1⟩ : ∃ c a b, curVar s 0 (!ok) = (c, a, b) := ⟨_, _, _, rfl⟩
  rw [e1]
  simp only
  refine Ev.bind (impl_scan_number_ev s hs a1 b1) ?_
  obtain ⟨x2, a2, b2, e2⟩ : ∃ c a b, curVar s a1 b1 = (c, a, b) := ⟨_, _, _, rfl⟩
  rw [e2]
  simp only
  refine Ev.bind (impl_scan_short_ev s hs a2 b2) ?_
  have z3 := curShI_size s a2 b2
  obtain ⟨x3, a3, b3, e3⟩ : ∃ c a b, curShI s a2 b2 = (c, a, b) := ⟨_, _, _, rfl⟩
  rw [e3] at z3 ⊢
  simp only at z3 ⊢
  refine Ev.bind (impl_scan_short_ev s hs a3 b3) ?_
  obtain ⟨x4, a4, b4, e4⟩ : ∃ c a b, curShI s a3 b3 = (c, a, b) := ⟨_, _, _, rfl⟩
  rw [e4]
  simp only
  refine Ev.bind (impl_ReadConf_ev x3 (by omega)) ?_
  refine Ev.bind (impl_scan_done_ev s a4 b4) ?_
  by_cases h1 : (!b4 && (a4 == (s.size : Int))) = true
  · by_cases h2 : (pReadConf x3).2 = true
    · simp only [h1, h2, if_true, true_and]
      refine Ev.bind (impl_isIndex_ev x1) ?_
      by_cases h3 : 0 ≤ x1 ∧ x1 ≤ 1000000
      · simp only [h3, and_self, decide_true, if_true, true_and]
        refine Ev.bind (impl_isTerm_ev x2) ?_
        by_cases h4 : 0 ≤ x2 ∧ x2 ≤ 100000
        · simp only [h4, and_self, decide_true, if_true, true_and]
          by_cases h5 : (t.size : Int) > 20000
          · simp only [h5, if_true, not_true, if_false]; exact Ev.now _
          · simp only [h5, if_false, not_false_eq_true, if_true]; exact Ev.now _
        · simp only [h4, decide_false, Bool.false_eq_true, if_false, false_and]; exact Ev.now _
      · simp only [h3, decide_false, Bool.false_eq_true, if_false, false_and]; exact Ev.now _
    · simp only [h1, h2, if_true, if_false, false_and, and_false]; exact Ev.now _
  · simp only [h1, if_false, false_and]; exact Ev.now _

theorem spec_l01In_ev (a b c : Int) : Ev (fun _ => spec_l01In.f a b c) (decide (b ≤ a ∧ a ≤ c)) := by
  apply ev_const
  unfold spec_l01In.f
  by_cases h : a ≥ b
  · rw [if_pos h]; simp [show b ≤ a from h]
  · rw [if_neg h]; simp [show ¬ b ≤ a from h]

theorem spec_l01Var_l0 (n : Nat) : ∀ xs : List Int, xs.length + n < 140737488355328 → Ev (fun k => spec_l01Var.l0 k (n : Int) xs) (strOfNums (xs ++ varN n)) := by
  induction n using Nat.strongRecOn with
  | ind n ih =>
    intro xs h
    apply ev_succ
    have c2 : xs.length < 140737488355328 := by omega
    by_cases hn : n ≤ 127
    · have c1 : ¬ (n : Int) > 127 := by omega
      simp only [spec_l01Var.l0, c1, c2, if_true, if_false]
      apply ev_some
      rw [varN_small hn, show (n : Int) % 256 = n by omega]
    · have c1 : (n : Int) > 127 := by omega
      simp only [spec_l01Var.l0, c1, c2, if_true, var_div n (by omega), var_mod n]
      have := ih (n / 128) (by omega) (xs ++ [((n % 128 + 128 : Nat) : Int)]) (by simp; omega)
      rw [varN_big hn]
      simpa using this
theorem spec_l01Var_ev (n : Nat) (h : n < 140737488355328) : Ev (fun k => spec_l01Var.f k (n : Int)) (varB n) := by
  simp only [spec_l01Var.f]
  have := spec_l01Var_l0 n [] (by simpa using h)
  simpa [varB] using this

theorem spec_ReadVar_i5 (s : ByteArray) (hs : s.size ≤ 140737488351232) (at_ : Int) (h0 : 0 ≤ at_) (h1 : at_ ≤ s.size) (n sc : Int) (l : List Int) : Ev (fun k => spec_ReadVar.l0 k s at_ n sc (at_ + 5)) (rvOut (at_ + 5) (rvF 0 sc n false l)) := by
  apply ev_succ
  have e1 : wrap64 (at_ + 5) = at_ + 5 := w64 (by omega) (by omega)
  have e2 : decide (at_ + 5 < at_ + 5) = false := decide_eq_false (by omega)
  simp only [spec_ReadVar.l0, e1, e2, ite_self]
  apply ev_succ
  simp only [spec_ReadVar.j1, Bool.false_eq_true, if_false]
  exact Ev.now _
theorem spec_ReadVar_i4 (s : ByteArray) (hs : s.size ≤ 140737488351232) (at_ : Int) (h0 : 0 ≤ at_) (h1 : at_ ≤ s.size) (ds : List Int) (hl : ds.length = 4) (hd : ∀ d ∈ ds, 128 ≤ d ∧ d ≤ 255) (hv : valL ds < 268435456) (hp : ds = ((bytesOf s).drop at_.toNat).take 4) :
    Ev (fun k => spec_ReadVar.l0 k s at_ (valL ds : Int) 268435456 (at_ + 4)) (rvOut (at_ + 4) (rvF 1 268435456 (valL ds : Int) false ((bytesOf s).drop (at_ + 4).toNat))) := by
  apply ev_succ
  have e1 : wrap64 (at_ + 5) = at_ + 5 := w64 (by omega) (by omega)
  have e2 : decide (at_ + 4 < at_ + 5) = true := decide_eq_true (by omega)
  by_cases c : at_ + 4 < (s.size : Int)
  · simp only [spec_ReadVar.l0, c, if_true, e1, e2]
    apply ev_succ
    rw [drop_bt s (at_ + 4) (by omega) c]
    have br := bt_range s (at_ + 4)
    have e0 : 0 ≤ at_ + 4 := by omega
    have e7 : (at_ + 4 + 1).toNat = (at_ + 5).toNat := by omega
    rw [e7]
    have k3 : at_ + 4 + 1 = at_ + 5 := by omega
    have k4 : (268435456 : Int) * 128 = 34359738368 := by decide
    simp only [spec_ReadVar.j1, c, if_true, e0, h0]
    have hp' : ds ++ [bt s (at_ + 4)] = ((bytesOf s).drop at_.toNat).take 5 := by
      have h3 : ((bytesOf s).drop at_.toNat)[4]? = some (bt s (at_ + 4)) := by
        rw [List.getElem?_drop, bt_rd, List.getD_eq_getElem?_getD, show (at_ + 4).toNat = at_.toNat + 4 by omega, List.getElem?_eq_getElem (by rw [bytes_len]; omega)]
        rfl
      rw [List.take_add_one, ← hp, h3]
      rfl
    have hvs := valL_snoc ds (bt s (at_ + 4))
    rw [hl] at hvs
    have hx : bytesOf (s.extract at_.toNat (at_ + 4 + 1).toNat) = ds ++ [bt s (at_ + 4)] := by
      rw [bytes_ext, hp', show (at_ + 4 + 1).toNat - at_.toNat = 5 by omega]
    have hnext := fun (_ _ : True) => spec_ReadVar_i5 s hs at_ h0 h1 (valL (ds ++ [bt s (at_ + 4)]) : Int) 34359738368 ((bytesOf s).drop (at_ + 5).toNat)
    have hcan := canon ds (bt s (at_ + 4)) hd
    have hext : ∀ X : ByteArray, X = s.extract at_.toNat (at_ + 4 + 1).toNat ↔ bytesOf X = ds ++ [bt s (at_ + 4)] := fun X => ⟨fun h => by rw [h, hx], fun h => bytes_inj (by rw [h, hx])⟩
    generalize bt s (at_ + 4) = b at br hnext hvs hcan hext hp' ⊢
    have hval : ((valL (ds ++ [b]) : Nat) : Int) = (valL ds : Int) + b % 128 * 268435456 := by
      rw [hvs]; omega
    have hv' : valL (ds ++ [b]) < 34359738368 := by clear hnext hext hcan hp' hd hp; omega
    have e3 : wrap64 b = b := w64 (by omega) (by omega)
    have e4 : Int.tmod b 128 = b % 128 := Int.tmod_eq_emod_of_nonneg (by omega)
    have e5 : wrap64 (b % 128 * 268435456) = b % 128 * 268435456 := w64 (by omega) (by omega)
    have e6 : wrap64 ((valL (ds ++ [b]) : Nat) : Int) = ((valL (ds ++ [b]) : Nat) : Int) := w64 (by omega) (by omega)
    have e8 : wrap64 (at_ + 4 + 1) = at_ + 4 + 1 := w64 (by omega) (by omega)
    have e9 : wrap64 (268435456 * 128) = 34359738368 := wlit (by decide) (by decide) (by decide)
    have k1 : at_ ≤ at_ + 4 + 1 := by omega
    have k2 : at_ + 4 + 1 ≤ (s.size : Int) := by omega
    simp only [if_true, e3, e4, e5, e6, e8, e9, k1, k2, ← hval]
    by_cases hb : b < 128
    · have hb' : ¬ b > 127 := not_big hb
      by_cases hg : ((valL (ds ++ [b]) : Nat) : Int) > 1000000000
      · have hbad : (valL ds : Int) + b % 128 * 268435456 > 1000000000 := by rw [← hval]; exact hg
        rw [rvF_stop hb' (Or.inr hbad)]
        simp only [hb, hg, if_true]
        exact Ev.now _
      · simp only [hb, hg, if_true, if_false]
        refine Ev.bind (spec_l01Var_ev (valL (ds ++ [b])) (lt_big hg)) ?_
        simp only [toList_iff, hext, varB, bytes_str (varN_isB _), hcan br.1 (lt_128 hb)]
        have hgood : ¬ (valL ds : Int) + b % 128 * 268435456 > 1000000000 := by rw [← hval]; exact hg
        by_cases hz : ds = [] ∨ b ≠ 0
        · have hq : ¬ (false = false ∧ b = 0) := by rcases hz with rfl | hz; exact absurd hl (by simp); exact fun h => hz h.2
          rw [rvF_take hb' hq hgood, ← hval]
          simp only [if_pos hz]
          exact Ev.now _
        · rw [rvF_stop hb' (Or.inl ⟨rfl, Classical.byContradiction fun h => hz (Or.inr h)⟩)]
          simp only [if_neg hz]
          exact Ev.now _
    · have hb' : b > 127 := is_big hb
      rw [rvF_more hb', rvOut_map, ← hval]
      simp only [hb, if_false]
      have hh := hnext trivial trivial
      simpa only [k3, k4] using hh
  · simp only [spec_ReadVar.l0, c, if_false]
    apply ev_succ
    simp only [spec_ReadVar.j1, Bool.false_eq_true, if_false]
    rw [List.drop_of_length_le (by rw [bytes_len]; omega)]
    exact Ev.now _
theorem spec_ReadVar_i3 (s : ByteArray) (hs : s.size ≤ 140737488351232) (at_ : Int) (h0 : 0 ≤ at_) (h1 : at_ ≤ s.size) (ds : List Int) (hl : ds.length = 3) (hd : ∀ d ∈ ds, 128 ≤ d ∧ d ≤ 255) (hv : valL ds < 2097152) (hp : ds = ((bytesOf s).drop at_.toNat).take 3) :
    Ev (fun k => spec_ReadVar.l0 k s at_ (valL ds : Int) 2097152 (at_ + 3)) (rvOut (at_ + 3) (rvF 2 2097152 (valL ds : Int) false ((bytesOf s).drop (at_ + 3).toNat))) := by
  apply ev_succ
  have e1 : wrap64 (at_ + 5) = at_ + 5 := w64 (by omega) (by omega)
  have e2 : decide (at_ + 3 < at_ + 5) = true := decide_eq_true (by omega)
  by_cases c : at_ + 3 < (s.size : Int)
  · simp only [spec_ReadVar.l0, c, if_true, e1, e2]
    apply ev_succ
    rw [drop_bt s (at_ + 3) (by omega) c]
    have br := bt_range s (at_ + 3)
    have e0 : 0 ≤ at_ + 3 := by omega
    have e7 : (at_ + 3 + 1).toNat = (at_ + 4).toNat := by omega
    rw [e7]
    have k3 : at_ + 3 + 1 = at_ + 4 := by omega
    have k4 : (2097152 : Int) * 128 = 268435456 := by decide
    simp only [spec_ReadVar.j1, c, if_true, e0, h0]
    have hp' : ds ++ [bt s (at_ + 3)] = ((bytesOf s).drop at_.toNat).take 4 := by
      have h3 : ((bytesOf s).drop at_.toNat)[3]? = some (bt s (at_ + 3)) := by
        rw [List.getElem?_drop, bt_rd, List.getD_eq_getElem?_getD, show (at_ + 3).toNat = at_.toNat + 3 by omega, List.getElem?_eq_getElem (by rw [bytes_len]; omega)]
        rfl
      rw [List.take_add_one, ← hp, h3]
      rfl
    have hvs := valL_snoc ds (bt s (at_ + 3))
    rw [hl] at hvs
    have hx : bytesOf (s.extract at_.toNat (at_ + 3 + 1).toNat) = ds ++ [bt s (at_ + 3)] := by
      rw [bytes_ext, hp', show (at_ + 3 + 1).toNat - at_.toNat = 4 by omega]
    have hnext := fun hv' hd' => spec_ReadVar_i4 s hs at_ h0 h1 (ds ++ [bt s (at_ + 3)]) (by simp [hl]) hd' hv' hp'
    have hcan := canon ds (bt s (at_ + 3)) hd
    have hext : ∀ X : ByteArray, X = s.extract at_.toNat (at_ + 3 + 1).toNat ↔ bytesOf X = ds ++ [bt s (at_ + 3)] := fun X => ⟨fun h => by rw [h, hx], fun h => bytes_inj (by rw [h, hx])⟩
    generalize bt s (at_ + 3) = b at br hnext hvs hcan hext hp' ⊢
    have hval : ((valL (ds ++ [b]) : Nat) : Int) = (valL ds : Int) + b % 128 * 2097152 := by
      rw [hvs]; omega
    have hv' : valL (ds ++ [b]) < 268435456 := by clear hnext hext hcan hp' hd hp; omega
    have e3 : wrap64 b = b := w64 (by omega) (by omega)
    have e4 : Int.tmod b 128 = b % 128 := Int.tmod_eq_emod_of_nonneg (by omega)
    have e5 : wrap64 (b % 128 * 2097152) = b % 128 * 2097152 := w64 (by omega) (by omega)
    have e6 : wrap64 ((valL (ds ++ [b]) : Nat) : Int) = ((valL (ds ++ [b]) : Nat) : Int) := w64 (by omega) (by omega)
    have e8 : wrap64 (at_ + 3 + 1) = at_ + 3 + 1 := w64 (by omega) (by omega)
    have e9 : wrap64 (2097152 * 128) = 268435456 := wlit (by decide) (by decide) (by decide)
    have k1 : at_ ≤ at_ + 3 + 1 := by omega
    have k2 : at_ + 3 + 1 ≤ (s.size : Int) := by omega
    simp only [if_true, e3, e4, e5, e6, e8, e9, k1, k2, ← hval]
    by_cases hb : b < 128
    · have hb' : ¬ b > 127 := not_big hb
      by_cases hg : ((valL (ds ++ [b]) : Nat) : Int) > 1000000000
      · have hbad : (valL ds : Int) + b % 128 * 2097152 > 1000000000 := by rw [← hval]; exact hg
        rw [rvF_stop hb' (Or.inr hbad)]
        simp only [hb, hg, if_true]
        exact Ev.now _
      · simp only [hb, hg, if_true, if_false]
        refine Ev.bind (spec_l01Var_ev (valL (ds ++ [b])) (lt_big hg)) ?_
        simp only [toList_iff, hext, varB, bytes_str (varN_isB _), hcan br.1 (lt_128 hb)]
        have hgood : ¬ (valL ds : Int) + b % 128 * 2097152 > 1000000000 := by rw [← hval]; exact hg
        by_cases hz : ds = [] ∨ b ≠ 0
        · have hq : ¬ (false = false ∧ b = 0) := by rcases hz with rfl | hz; exact absurd hl (by simp); exact fun h => hz h.2
          rw [rvF_take hb' hq hgood, ← hval]
          simp only [if_pos hz]
          exact Ev.now _
        · rw [rvF_stop hb' (Or.inl ⟨rfl, Classical.byContradiction fun h => hz (Or.inr h)⟩)]
          simp only [if_neg hz]
          exact Ev.now _
    · have hb' : b > 127 := is_big hb
      rw [rvF_more hb', rvOut_map, ← hval]
      simp only [hb, if_false]
      have hh := hnext hv' (big_app hd hb br.2)
      simpa only [k3, k4] using hh
  · simp only [spec_ReadVar.l0, c, if_false]
    apply ev_succ
    simp only [spec_ReadVar.j1, Bool.false_eq_true, if_false]
    rw [List.drop_of_length_le (by rw [bytes_len]; omega)]
    exact Ev.now _
theorem spec_ReadVar_i2 (s : ByteArray) (hs : s.size ≤ 140737488351232) (at_ : Int) (h0 : 0 ≤ at_) (h1 : at_ ≤ s.size) (ds : List Int) (hl : ds.length = 2) (hd : ∀ d ∈ ds, 128 ≤ d ∧ d ≤ 255) (hv : valL ds < 16384) (hp : ds = ((bytesOf s).drop at_.toNat).take 2) :
    Ev (fun k => spec_ReadVar.l0 k s at_ (valL ds : Int) 16384 (at_ + 2)) (rvOut (at_ + 2) (rvF 3 16384 (valL ds : Int) false ((bytesOf s).drop (at_ + 2).toNat))) := by
  apply ev_succ
  have e1 : wrap64 (at_ + 5) = at_ + 5 := w64 (by omega) (by omega)
  have e2 : decide (at_ + 2 < at_ + 5) = true := decide_eq_true (by omega)
  by_cases c : at_ + 2 < (s.size : Int)
  · simp only [spec_ReadVar.l0, c, if_true, e1, e2]
    apply ev_succ
    rw [drop_bt s (at_ + 2) (by omega) c]
    have br := bt_range s (at_ + 2)
    have e0 : 0 ≤ at_ + 2 := by omega
    have e7 : (at_ + 2 + 1).toNat = (at_ + 3).toNat := by omega
    rw [e7]
    have k3 : at_ + 2 + 1 = at_ + 3 := by omega
    have k4 : (16384 : Int) * 128 = 2097152 := by decide
    simp only [spec_ReadVar.j1, c, if_true, e0, h0]
    have hp' : ds ++ [bt s (at_ + 2)] = ((bytesOf s).drop at_.toNat).take 3 := by
      have h3 : ((bytesOf s).drop at_.toNat)[2]? = some (bt s (at_ + 2)) := by
        rw [List.getElem?_drop, bt_rd, List.getD_eq_getElem?_getD, show (at_ + 2).toNat = at_.toNat + 2 by omega, List.getElem?_eq_getElem (by rw [bytes_len]; omega)]
        rfl
      rw [List.take_add_one, ← hp, h3]
      rfl
    have hvs := valL_snoc ds (bt s (at_ + 2))
    rw [hl] at hvs
    have hx : bytesOf (s.extract at_.toNat (at_ + 2 + 1).toNat) = ds ++ [bt s (at_ + 2)] := by
      rw [bytes_ext, hp', show (at_ + 2 + 1).toNat - at_.toNat = 3 by omega]
    have hnext := fun hv' hd' => spec_ReadVar_i3 s hs at_ h0 h1 (ds ++ [bt s (at_ + 2)]) (by simp [hl]) hd' hv' hp'
    have hcan := canon ds (bt s (at_ + 2)) hd
    have hext : ∀ X : ByteArray, X = s.extract at_.toNat (at_ + 2 + 1).toNat ↔ bytesOf X = ds ++ [bt s (at_ + 2)] := fun X => ⟨fun h => by rw [h, hx], fun h => bytes_inj (by rw [h, hx])⟩
    generalize bt s (at_ + 2) = b at br hnext hvs hcan hext hp' ⊢
    have hval : ((valL (ds ++ [b]) : Nat) : Int) = (valL ds : Int) + b % 128 * 16384 := by
      rw [hvs]; omega
    have hv' : valL (ds ++ [b]) < 2097152 := by clear hnext hext hcan hp' hd hp; omega
    have e3 : wrap64 b = b := w64 (by omega) (by omega)
    have e4 : Int.tmod b 128 = b % 128 := Int.tmod_eq_emod_of_nonneg (by omega)
    have e5 : wrap64 (b % 128 * 16384) = b % 128 * 16384 := w64 (by omega) (by omega)
    have e6 : wrap64 ((valL (ds ++ [b]) : Nat) : Int) = ((valL (ds ++ [b]) : Nat) : Int) := w64 (by omega) (by omega)
    have e8 : wrap64 (at_ + 2 + 1) = at_ + 2 + 1 := w64 (by omega) (by omega)
    have e9 : wrap64 (16384 * 128) = 2097152 := wlit (by decide) (by decide) (by decide)
    have k1 : at_ ≤ at_ + 2 + 1 := by omega
    have k2 : at_ + 2 + 1 ≤ (s.size : Int) := by omega
    simp only [if_true, e3, e4, e5, e6, e8, e9, k1, k2, ← hval]
    by_cases hb : b < 128
    · have hb' : ¬ b > 127 := not_big hb
      by_cases hg : ((valL (ds ++ [b]) : Nat) : Int) > 1000000000
      · have hbad : (valL ds : Int) + b % 128 * 16384 > 1000000000 := by rw [← hval]; exact hg
        rw [rvF_stop hb' (Or.inr hbad)]
        simp only [hb, hg, if_true]
        exact Ev.now _
      · simp only [hb, hg, if_true, if_false]
        refine Ev.bind (spec_l01Var_ev (valL (ds ++ [b])) (lt_big hg)) ?_
        simp only [toList_iff, hext, varB, bytes_str (varN_isB _), hcan br.1 (lt_128 hb)]
        have hgood : ¬ (valL ds : Int) + b % 128 * 16384 > 1000000000 := by rw [← hval]; exact hg
        by_cases hz : ds = [] ∨ b ≠ 0
        · have hq : ¬ (false = false ∧ b = 0) := by rcases hz with rfl | hz; exact absurd hl (by simp); exact fun h => hz h.2
          rw [rvF_take hb' hq hgood, ← hval]
          simp only [if_pos hz]
          exact Ev.now _
        · rw [rvF_stop hb' (Or.inl ⟨rfl, Classical.byContradiction fun h => hz (Or.inr h)⟩)]
          simp only [if_neg hz]
          exact Ev.now _
    · have hb' : b > 127 := is_big hb
      rw [rvF_more hb', rvOut_map, ← hval]
      simp only [hb, if_false]
      have hh := hnext hv' (big_app hd hb br.2)
      simpa only [k3, k4] using hh
  · simp only [spec_ReadVar.l0, c, if_false]
    apply ev_succ
    simp only [spec_ReadVar.j1, Bool.false_eq_true, if_false]
    rw [List.drop_of_length_le (by rw [bytes_len]; omega)]
    exact Ev.now _
theorem spec_ReadVar_i1 (s : ByteArray) (hs : s.size ≤ 140737488351232) (at_ : Int) (h0 : 0 ≤ at_) (h1 : at_ ≤ s.size) (ds : List Int) (hl : ds.length = 1) (hd : ∀ d ∈ ds, 128 ≤ d ∧ d ≤ 255) (hv : valL ds < 128) (hp : ds = ((bytesOf s).drop at_.toNat).take 1) :
    Ev (fun k => spec_ReadVar.l0 k s at_ (valL ds : Int) 128 (at_ + 1)) (rvOut (at_ + 1) (rvF 4 128 (valL ds : Int) false ((bytesOf s).drop (at_ + 1).toNat))) := by
  apply ev_succ
  have e1 : wrap64 (at_ + 5) = at_ + 5 := w64 (by omega) (by omega)
  have e2 : decide (at_ + 1 < at_ + 5) = true := decide_eq_true (by omega)
  by_cases c : at_ + 1 < (s.size : Int)
  · simp only [spec_ReadVar.l0, c, if_true, e1, e2]
    apply ev_succ
    rw [drop_bt s (at_ + 1) (by omega) c]
    have br := bt_range s (at_ + 1)
    have e0 : 0 ≤ at_ + 1 := by omega
    have e7 : (at_ + 1 + 1).toNat = (at_ + 2).toNat := by omega
    rw [e7]
    have k3 : at_ + 1 + 1 = at_ + 2 := by omega
    have k4 : (128 : Int) * 128 = 16384 := by decide
    simp only [spec_ReadVar.j1, c, if_true, e0, h0]
    have hp' : ds ++ [bt s (at_ + 1)] = ((bytesOf s).drop at_.toNat).take 2 := by
      have h3 : ((bytesOf s).drop at_.toNat)[1]? = some (bt s (at_ + 1)) := by
        rw [List.getElem?_drop, bt_rd, List.getD_eq_getElem?_getD, show (at_ + 1).toNat = at_.toNat + 1 by omega, List.getElem?_eq_getElem (by rw [bytes_len]; omega)]
        rfl
      rw [List.take_add_one, ← hp, h3]
      rfl
    have hvs := valL_snoc ds (bt s (at_ + 1))
    rw [hl] at hvs
    have hx : bytesOf (s.extract at_.toNat (at_ + 1 + 1).toNat) = ds ++ [bt s (at_ + 1)] := by
      rw [bytes_ext, hp', show (at_ + 1 + 1).toNat - at_.toNat = 2 by omega]
    have hnext := fun hv' hd' => spec_ReadVar_i2 s hs at_ h0 h1 (ds ++ [bt s (at_ + 1)]) (by simp [hl]) hd' hv' hp'
    have hcan := canon ds (bt s (at_ + 1)) hd
    have hext : ∀ X : ByteArray, X = s.extract at_.toNat (at_ + 1 + 1).toNat ↔ bytesOf X = ds ++ [bt s (at_ + 1)] := fun X => ⟨fun h => by rw [h, hx], fun h => bytes_inj (by rw [h, hx])⟩
    generalize bt s (at_ + 1) = b at br hnext hvs hcan hext hp' ⊢
    have hval : ((valL (ds ++ [b]) : Nat) : Int) = (valL ds : Int) + b % 128 * 128 := by
      rw [hvs]; omega
    have hv' : valL (ds ++ [b]) < 16384 := by clear hnext hext hcan hp' hd hp; omega
    have e3 : wrap64 b = b := w64 (by omega) (by omega)
    have e4 : Int.tmod b 128 = b % 128 := Int.tmod_eq_emod_of_nonneg (by omega)
    have e5 : wrap64 (b % 128 * 128) = b % 128 * 128 := w64 (by omega) (by omega)
    have e6 : wrap64 ((valL (ds ++ [b]) : Nat) : Int) = ((valL (ds ++ [b]) : Nat) : Int) := w64 (by omega) (by omega)
    have e8 : wrap64 (at_ + 1 + 1) = at_ + 1 + 1 := w64 (by omega) (by omega)
    have e9 : wrap64 (128 * 128) = 16384 := wlit (by decide) (by decide) (by decide)
    have k1 : at_ ≤ at_ + 1 + 1 := by omega
    have k2 : at_ + 1 + 1 ≤ (s.size : Int) := by omega
    simp only [if_true, e3, e4, e5, e6, e8, e9, k1, k2, ← hval]
    by_cases hb : b < 128
    · have hb' : ¬ b > 127 := not_big hb
      by_cases hg : ((valL (ds ++ [b]) : Nat) : Int) > 1000000000
      · have hbad : (valL ds : Int) + b % 128 * 128 > 1000000000 := by rw [← hval]; exact hg
        rw [rvF_stop hb' (Or.inr hbad)]
        simp only [hb, hg, if_true]
        exact Ev.now _
      · simp only [hb, hg, if_true, if_false]
        refine Ev.bind (spec_l01Var_ev (valL (ds ++ [b])) (lt_big hg)) ?_
        simp only [toList_iff, hext, varB, bytes_str (varN_isB _), hcan br.1 (lt_128 hb)]
        have hgood : ¬ (valL ds : Int) + b % 128 * 128 > 1000000000 := by rw [← hval]; exact hg
        by_cases hz : ds = [] ∨ b ≠ 0
        · have hq : ¬ (false = false ∧ b = 0) := by rcases hz with rfl | hz; exact absurd hl (by simp); exact fun h => hz h.2
          rw [rvF_take hb' hq hgood, ← hval]
          simp only [if_pos hz]
          exact Ev.now _
        · rw [rvF_stop hb' (Or.inl ⟨rfl, Classical.byContradiction fun h => hz (Or.inr h)⟩)]
          simp only [if_neg hz]
          exact Ev.now _
    · have hb' : b > 127 := is_big hb
      rw [rvF_more hb', rvOut_map, ← hval]
      simp only [hb, if_false]
      have hh := hnext hv' (big_app hd hb br.2)
      simpa only [k3, k4] using hh
  · simp only [spec_ReadVar.l0, c, if_false]
    apply ev_succ
    simp only [spec_ReadVar.j1, Bool.false_eq_true, if_false]
    rw [List.drop_of_length_le (by rw [bytes_len]; omega)]
    exact Ev.now _
theorem spec_ReadVar_i0 (s : ByteArray) (hs : s.size ≤ 140737488351232) (at_ : Int) (h0 : 0 ≤ at_) (h1 : at_ ≤ s.size) (ds : List Int) (hl : ds.length = 0) (hd : ∀ d ∈ ds, 128 ≤ d ∧ d ≤ 255) (hv : valL ds < 1) (hp : ds = ((bytesOf s).drop at_.toNat).take 0) :
    Ev (fun k => spec_ReadVar.l0 k s at_ (valL ds : Int) 1 (at_ + 0)) (rvOut (at_ + 0) (rvF 5 1 (valL ds : Int) true ((bytesOf s).drop (at_ + 0).toNat))) := by
  apply ev_succ
  have e1 : wrap64 (at_ + 5) = at_ + 5 := w64 (by omega) (by omega)
  have e2 : decide (at_ + 0 < at_ + 5) = true := decide_eq_true (by omega)
  by_cases c : at_ + 0 < (s.size : Int)
  · simp only [spec_ReadVar.l0, c, if_true, e1, e2]
    apply ev_succ
    rw [drop_bt s (at_ + 0) (by omega) c]
    have br := bt_range s (at_ + 0)
    have e0 : 0 ≤ at_ + 0 := by omega
    have e7 : (at_ + 0 + 1).toNat = (at_ + 1).toNat := by omega
    rw [e7]
    have k3 : at_ + 0 + 1 = at_ + 1 := by omega
    have k4 : (1 : Int) * 128 = 128 := by decide
    simp only [spec_ReadVar.j1, c, if_true, e0, h0]
    have hp' : ds ++ [bt s (at_ + 0)] = ((bytesOf s).drop at_.toNat).take 1 := by
      have h3 : ((bytesOf s).drop at_.toNat)[0]? = some (bt s (at_ + 0)) := by
        rw [List.getElem?_drop, bt_rd, List.getD_eq_getElem?_getD, show (at_ + 0).toNat = at_.toNat + 0 by omega, List.getElem?_eq_getElem (by rw [bytes_len]; omega)]
        rfl
      rw [List.take_add_one, ← hp, h3]
      rfl
    have hvs := valL_snoc ds (bt s (at_ + 0))
    rw [hl] at hvs
    have hx : bytesOf (s.extract at_.toNat (at_ + 0 + 1).toNat) = ds ++ [bt s (at_ + 0)] := by
      rw [bytes_ext, hp', show (at_ + 0 + 1).toNat - at_.toNat = 1 by omega]
    have hnext := fun hv' hd' => spec_ReadVar_i1 s hs at_ h0 h1 (ds ++ [bt s (at_ + 0)]) (by simp [hl]) hd' hv' hp'
    have hcan := canon ds (bt s (at_ + 0)) hd
    have hext : ∀ X : ByteArray, X = s.extract at_.toNat (at_ + 0 + 1).toNat ↔ bytesOf X = ds ++ [bt s (at_ + 0)] := fun X => ⟨fun h => by rw [h, hx], fun h => bytes_inj (by rw [h, hx])⟩
    generalize bt s (at_ + 0) = b at br hnext hvs hcan hext hp' ⊢
    have hval : ((valL (ds ++ [b]) : Nat) : Int) = (valL ds : Int) + b % 128 * 1 := by
      rw [hvs]; omega
    have hv' : valL (ds ++ [b]) < 128 := by clear hnext hext hcan hp' hd hp; omega
    have e3 : wrap64 b = b := w64 (by omega) (by omega)
    have e4 : Int.tmod b 128 = b % 128 := Int.tmod_eq_emod_of_nonneg (by omega)
    have e5 : wrap64 (b % 128 * 1) = b % 128 * 1 := w64 (by omega) (by omega)
    have e6 : wrap64 ((valL (ds ++ [b]) : Nat) : Int) = ((valL (ds ++ [b]) : Nat) : Int) := w64 (by omega) (by omega)
    have e8 : wrap64 (at_ + 0 + 1) = at_ + 0 + 1 := w64 (by omega) (by omega)
    have e9 : wrap64 (1 * 128) = 128 := wlit (by decide) (by decide) (by decide)
    have k1 : at_ ≤ at_ + 0 + 1 := by omega
    have k2 : at_ + 0 + 1 ≤ (s.size : Int) := by omega
    simp only [if_true, e3, e4, e5, e6, e8, e9, k1, k2, ← hval]
    by_cases hb : b < 128
    · have hb' : ¬ b > 127 := not_big hb
      by_cases hg : ((valL (ds ++ [b]) : Nat) : Int) > 1000000000
      · have hbad : (valL ds : Int) + b % 128 * 1 > 1000000000 := by rw [← hval]; exact hg
        rw [rvF_stop hb' (Or.inr hbad)]
        simp only [hb, hg, if_true]
        exact Ev.now _
      · simp only [hb, hg, if_true, if_false]
        refine Ev.bind (spec_l01Var_ev (valL (ds ++ [b])) (lt_big hg)) ?_
        simp only [toList_iff, hext, varB, bytes_str (varN_isB _), hcan br.1 (lt_128 hb)]
        have hgood : ¬ (valL ds : Int) + b % 128 * 1 > 1000000000 := by rw [← hval]; exact hg
        by_cases hz : ds = [] ∨ b ≠ 0
        · have hq : ¬ (true = false ∧ b = 0) := by simp
          rw [rvF_take hb' hq hgood, ← hval]
          simp only [if_pos hz]
          exact Ev.now _
        · exact absurd (Or.inl (List.eq_nil_of_length_eq_zero hl)) hz

    · have hb' : b > 127 := is_big hb
      rw [rvF_more hb', rvOut_map, ← hval]
      simp only [hb, if_false]
      have hh := hnext hv' (big_app hd hb br.2)
      simpa only [k3, k4] using hh
  · simp only [spec_ReadVar.l0, c, if_false]
    apply ev_succ
    simp only [spec_ReadVar.j1, Bool.false_eq_true, if_false]
    rw [List.drop_of_length_le (by rw [bytes_len]; omega)]
    exact Ev.now _
theorem spec_ReadVar_ev (s : ByteArray) (hs : s.size ≤ 140737488351232) (at_ : Int) : Ev (fun k => spec_ReadVar.f k s at_) (pReadVar s at_) := by
  simp only [spec_ReadVar.f]
  refine Ev.bind (spec_l01In_ev _ _ _) ?_
  by_cases h : 0 ≤ at_ ∧ at_ ≤ (s.size : Int)
  · simp only [h, and_self, decide_true, if_true]
    rw [pReadVar_in h]
    have hh := spec_ReadVar_i0 s hs at_ h.1 h.2 [] rfl (by simp) (by decide) (by simp)
    simpa only [Int.add_zero, valL, Int.natCast_zero] using hh
  · simp only [h, decide_false, Bool.false_eq_true, if_false]
    rw [pReadVar_out h]
    exact Ev.now _

theorem spec_l05Var_ev (s : ByteArray) (hs : s.size ≤ 140737488351232) (a : Int) (b : Bool) : Ev (fun k => spec_l05Var.f k s a b) ((curVar s a b).1, s, (curVar s a b).2.1, (curVar s a b).2.2) := by
  simp only [spec_l05Var.f]
  refine Ev.bind (spec_ReadVar_ev s hs a) ?_
  unfold curVar
  cases b with
  | true => simp only [if_true]; exact Ev.now _
  | false =>
    by_cases h : (pReadVar s a).2.2 = true
    · simp only [Bool.false_eq_true, if_false, h, if_true]; exact Ev.now _
    · simp only [Bool.false_eq_true, if_false, h]; exact Ev.now _
theorem spec_l05Take_ev (s : ByteArray) (hs : s.size ≤ 140737488351232) (a : Int) (b : Bool) (n : Int) (ha : curOk s a) (hn : 0 ≤ n ∧ n ≤ 1000000000) : Ev (fun _ => spec_l05Take.f s a b n) ((curTake s a b n).1, s, (curTake s a b n).2.1, (curTake s a b n).2.2) := by
  unfold curOk at ha
  apply ev_const
  unfold curTake
  cases b with
  | true => simp only [spec_l05Take.f, if_true]
  | false =>
    have e0 : wrap64 ((s.size : Int) - a) = s.size - a := w64 (by omega) (by omega)
    by_cases h : n > (s.size : Int) - a
    · simp only [spec_l05Take.f, Bool.false_eq_true, if_false, e0, h, if_true]
    · have e1 : wrap64 (a + n) = a + n := w64 (by omega) (by omega)
      have e2 : wrap64 (a + n - n) = a := by rw [show a + n - n = a by omega]; exact w64 (by omega) (by omega)
      have k1 : a ≤ a + n := by omega
      have k2 : a + n ≤ (s.size : Int) := by omega
      simp only [spec_l05Take.f, Bool.false_eq_true, if_false, e0, h, e1, e2, ha.1, k1, k2, if_true]

theorem spec_SumMore_l1 (s : ByteArray) (i : Int) (h0 : 0 ≤ i) (h1 : i < s.size) (hs : s.size ≤ 140737488351232) (r : Int) : ∀ (m : Nat) (j x : Int), 0 ≤ j → j + m = 8 →
    Ev (fun k => spec_SumMore.l0 k (crcK m x) s (i + 1)) r → Ev (fun k => spec_SumMore.l1 k x s i j) r := by
  intro m
  induction m with
  | zero =>
    intro j x hj hm h
    apply ev_succ
    have c : ¬ j < 8 := by omega
    have e : wrap64 (i + 1) = i + 1 := w64 (by omega) (by omega)
    simp only [spec_SumMore.l1, c, if_false, e]
    exact h
  | succ m ih =>
    intro j x hj hm h
    apply ev_succ
    have c : j < 8 := by omega
    have e : wrap64 (j + 1) = j + 1 := w64 (by omega) (by omega)
    have hh := ih (j + 1) (crc1 x) (by omega) (by omega) h
    by_cases o : Int.tmod x 2 = 1
    · simp only [crc1, o, if_true] at hh
      simp only [spec_SumMore.l1, c, o, if_true, e]
      exact hh
    · simp only [crc1, o, if_false] at hh
      simp only [spec_SumMore.l1, c, o, if_true, if_false, e]
      exact hh
theorem spec_SumMore_l0 (s : ByteArray) (hs : s.size ≤ 140737488351232) : ∀ (d : Nat) (i : Int) (x : Int), 0 ≤ i → i + d = s.size →
    Ev (fun k => spec_SumMore.l0 k x s i) (crcL x ((bytesOf s).drop i.toNat)) := by
  intro d
  induction d with
  | zero =>
    intro i x h0 h
    apply ev_succ
    have c : ¬ i < (s.size : Int) := by omega
    simp only [spec_SumMore.l0, c, if_false]
    apply ev_some
    rw [List.drop_of_length_le (by rw [bytes_len]; omega)]; rfl
  | succ d ih =>
    intro i x h0 h
    apply ev_succ
    have c : i < (s.size : Int) := by omega
    simp only [spec_SumMore.l0, c, h0, if_true]
    have hh := ih (i + 1) (crcB x (bt s i)) (by omega) (by omega)
    rw [drop_bt s i h0 c]
    exact spec_SumMore_l1 s i h0 c hs _ 8 0 _ (by omega) (by omega) hh
theorem spec_SumMore_ev (x : Int) (s : ByteArray) (hs : s.size ≤ 140737488351232) : Ev (fun k => spec_SumMore.f k x s) (crcL x (bytesOf s)) := by
  simp only [spec_SumMore.f]
  exact spec_SumMore_l0 s hs s.size 0 x (by omega) (by omega)

theorem spec_SumOf_ev (s : ByteArray) (hs : s.size ≤ 140737488351232) : Ev (fun k => spec_SumOf.f k s) (sumN s) := by
  simp only [spec_SumOf.f]
  exact Ev.bind (spec_SumMore_ev _ s hs) (Ev.now _)

theorem spec_l02Four_ev (x : Int) : Ev (fun _ => spec_l02Four.f x) (strOfNums (four x)) := ev_const rfl

theorem spec_Unsealed_ev (t : ByteArray) (ht : t.size ≤ 140737488351232) : Ev (fun k => spec_Unsealed.f k t) (pUnsealed t) := by
  simp only [spec_Unsealed.f]
  by_cases h : t.size < 4
  · have c : wrap64 ((t.size : Int) - 4) < 0 := by rw [w64 (by omega) (by omega)]; omega
    simp only [c, if_true]
    rw [pUnsealed_no (by omega)]
    exact Ev.now _
  · have e : wrap64 ((t.size : Int) - 4) = ((t.size - 4 : Nat) : Int) := by rw [w64 (by omega) (by omega)]; omega
    have c1 : ¬ ((t.size - 4 : Nat) : Int) < 0 := by omega
    have c2 : 0 ≤ ((t.size - 4 : Nat) : Int) := by omega
    have c3 : ((t.size - 4 : Nat) : Int) ≤ (t.size : Int) := by omega
    by_cases h2 : t.size ≤ 20004
    · have c4 : ¬ ((t.size - 4 : Nat) : Int) > 20000 := by omega
      simp only [e, c1, c2, c3, c4, if_true, if_false, Int.toNat_natCast]
      have hz : (t.extract 0 (t.size - 4)).size = t.size - 4 := by rw [size_ext]; omega
      refine Ev.bind (spec_SumOf_ev _ (by omega)) ?_
      refine Ev.bind (spec_l02Four_ev _) ?_
      simp only [toList_iff, ← seal_iff t]
      by_cases h3 : t = sealB (t.extract 0 (t.size - 4))
      · rw [pUnsealed_yes ⟨by omega, h2, h3⟩]
        simp only [if_pos h3]
        exact Ev.now _
      · rw [pUnsealed_no (fun h => h3 h.2.2)]
        simp only [if_neg h3]
        exact Ev.now _
    · have c4 : ((t.size - 4 : Nat) : Int) > 20000 := by omega
      simp only [e, c1, c4, if_true, if_false]
      rw [pUnsealed_no (by omega)]
      exact Ev.now _

theorem spec_l05Rise_l0 (l : List Int) (lo up : Int) (hl : l.length ≤ 35184372088832) : ∀ (d : Nat) (i : Int), 0 ≤ i → i + d = l.length →
    Ev (fun k => spec_l05Rise.l0 k l lo up i) (rise lo up (prev l i) (l.drop i.toNat)) := by
  intro d
  induction d with
  | zero =>
    intro i h0 h
    apply ev_succ
    have c : ¬ i < (l.length : Int) := by omega
    simp only [spec_l05Rise.l0, c, if_false]
    apply ev_some
    rw [List.drop_of_length_le (by omega)]; simp [rise]
  | succ d ih =>
    intro i h0 h
    apply ev_succ
    have c : i < (l.length : Int) := by omega
    have e5 : wrap64 (i + 1) = i + 1 := w64 (by omega) (by omega)
    have e6 : wrap64 (i - 1) = i - 1 := w64 (by omega) (by omega)
    simp only [spec_l05Rise.l0, c, h0, if_true, e5, e6]
    refine Ev.bind (spec_l01In_ev _ _ _) ?_
    have hh := ih (i + 1) (by omega) (by omega)
    have hp : prev l (i + 1) = some (rd l i) := by rw [prev, if_neg (by omega)]; congr 2; omega
    rw [hp] at hh
    rw [drop_rd l i h0 c]
    by_cases hb : lo ≤ rd l i ∧ rd l i ≤ up
    · simp only [hb, and_self, decide_true, if_true]
      by_cases hi : i > 0
      · have k1 : 0 ≤ i - 1 := by omega
        have k2 : i - 1 < (l.length : Int) := by omega
        simp only [hi, k1, k2, if_true]
        rw [prev, if_neg (by omega)]
        by_cases hq : rd l (i - 1) ≥ rd l i
        · simp only [hq, if_true]
          apply ev_some
          simp [rise, show ¬ rd l (i - 1) < rd l i by omega]
        · simp only [hq, if_false]
          simpa [rise, hb, show rd l (i - 1) < rd l i by omega] using hh
      · simp only [hi, if_false]
        rw [prev, if_pos (by omega)]
        simpa [rise, hb] using hh
    · simp only [hb, decide_false, Bool.false_eq_true, if_false]
      apply ev_some
      cases prev l i <;> simp [rise, hb]
theorem spec_l05Rise_ev (l : List Int) (lo up : Int) (hl : l.length ≤ 35184372088832) : Ev (fun k => spec_l05Rise.f k l lo up) (rise lo up none l) := by
  simp only [spec_l05Rise.f]
  have := spec_l05Rise_l0 l lo up hl l.length 0 (by omega) (by omega)
  simpa [prev] using this
theorem spec_ConfOk_ev (l : List Int) (hl : l.length ≤ 35184372088832) : Ev (fun k => spec_ConfOk.f k l) (pConfOk l) := by
  simp only [spec_ConfOk.f]
  refine Ev.bind (spec_l01In_ev _ _ _) ?_
  by_cases h : 1 ≤ (l.length : Int) ∧ (l.length : Int) ≤ 4
  · simp only [h, and_self, decide_true, if_true]
    rw [pConfOk, decide_eq_true (by omega), Bool.true_and]
    exact Ev.bind (spec_l05Rise_ev l 1 4 hl) (Ev.now _)
  · simp only [h, decide_false, Bool.false_eq_true, if_false]
    apply ev_some
    cases hc : pConfOk l with
    | false => rfl
    | true => have := confOk_len l hc; omega

theorem spec_ReadConf_end (s : ByteArray) (hs : s.size ≤ 1048576) (x : List Int) (hx : x = (bytesOf s).take 5) :
    Ev (fun k => if (x.length : Int) = (s.size : Int) then ((spec_ConfOk.f k x).bind fun t => (if t = true then (some (x, true)) else (some ((([] : List Int)), false)))) else (some ((([] : List Int)), false))) (pReadConf s) := by
  have hxl : x.length = min 5 s.size := by rw [hx, List.length_take, bytes_len]
  by_cases h5 : s.size ≤ 5
  · rw [List.take_of_length_le (by rw [bytes_len]; omega)] at hx
    have c : (x.length : Int) = (s.size : Int) := by omega
    simp only [c, if_true]
    subst hx
    refine Ev.bind (spec_ConfOk_ev _ (by rw [bytes_len]; omega)) ?_
    by_cases h : pConfOk (bytesOf s) = true
    · simp only [h, if_true]
      rw [pReadConf_yes h]
      exact Ev.now _
    · simp only [h, if_false]
      rw [pReadConf_no h]
      exact Ev.now _
  · have c : ¬ (x.length : Int) = (s.size : Int) := by omega
    simp only [c, if_false]
    have hn : ¬ pConfOk (bytesOf s) = true := by
      intro h
      have := confOk_len _ h
      rw [bytes_len] at this
      omega
    rw [pReadConf_no hn]
    exact Ev.now _
theorem spec_ReadConf_ev (s : ByteArray) (hs : s.size ≤ 1048576) : Ev (fun k => spec_ReadConf.f k s) (pReadConf s) := by
  simp only [spec_ReadConf.f]
  have key := loop_up (fun k (x : List Int) i => spec_ReadConf.l0 k s x i) ((min 5 s.size : Nat) : Int) (pReadConf s) (fun x i => x = (bytesOf s).take i.toNat)
    (fun x hx => by
      have hx' : x = (bytesOf s).take 5 := by
        rw [hx, Int.toNat_natCast]
        by_cases h5 : s.size ≤ 5
        · rw [List.take_of_length_le (by rw [bytes_len]; omega), List.take_of_length_le (by rw [bytes_len]; omega)]
        · rw [show min 5 s.size = 5 by omega]
      have he := spec_ReadConf_end s hs x hx'
      by_cases c : ((min 5 s.size : Nat) : Int) < (s.size : Int)
      · have c2 : ¬ ((min 5 s.size : Nat) : Int) ≤ 4 := by omega
        simp only [spec_ReadConf.l0, c, c2, if_true, if_false]
        exact he
      · simp only [spec_ReadConf.l0, c, if_false]
        exact he)
    (fun x i h0 h1 hx ih => by
      have hxl : x.length ≤ s.size := by rw [hx, List.length_take, bytes_len]; omega
      have c1 : i < (s.size : Int) := by omega
      have c2 : i ≤ 4 := by omega
      have c3 : x.length < 17592186044416 := by omega
      have br := bt_range s i
      have e1 : wrap64 (bt s i) = bt s i := w64 (by omega) (by omega)
      have e2 : wrap64 (i + 1) = i + 1 := w64 (by omega) (by omega)
      simp only [spec_ReadConf.l0, c1, c2, h0, c3, if_true, e1, e2]
      refine ih _ ?_
      rw [take_snoc_rd _ i h0 (by rw [bytes_len]; exact c1), hx, bt_rd]
      rfl)
  exact key (min 5 s.size) 0 [] (by omega) (by omega) (by simp)

theorem spec_ConfText_ev (l : List Int) (hl : l.length ≤ 35184372088832) : Ev (fun k => spec_ConfText.f k l) (pConfText l) := by
  simp only [spec_ConfText.f]
  refine Ev.bind (spec_ConfOk_ev l hl) ?_
  by_cases h : pConfOk l = true
  · simp only [h, if_true]
    rw [pConfText_yes h]
    have key := loop_up (fun k (s : List Int) i => spec_ConfText.l0 k l s i) (l.length : Int) (confB l, true) (fun s i => s = (l.take i.toNat).map fun x => x % 256)
      (fun s hs => by
        subst hs
        have c : ¬ (l.length : Int) < (l.length : Int) := by omega
        simp only [spec_ConfText.l0, c, if_false]
        apply ev_some
        rw [List.take_of_length_le (by omega), confB])
      (fun s i h0 h1 hs ih => by
        have hsl : s.length ≤ l.length := by rw [hs, List.length_map, List.length_take]; omega
        have c3 : s.length < 140737488355328 := by omega
        have e2 : wrap64 (i + 1) = i + 1 := w64 (by omega) (by omega)
        simp only [spec_ConfText.l0, h1, h0, c3, if_true, e2]
        refine ih _ ?_
        rw [map_take_snoc _ l i h0 h1, hs])
    exact key l.length 0 [] (by omega) (by omega) (by simp)
  · simp only [h, if_false]
    rw [pConfText_no h]
    exact Ev.now _

theorem spec_Sealed_ev (s : ByteArray) (hs : s.size ≤ 140737488351232) : Ev (fun k => spec_Sealed.f k s) (pSealed s) := by
  simp only [spec_Sealed.f]
  by_cases h : (s.size : Int) > 20000
  · simp only [h, if_true]
    rw [pSealed_no (by omega)]
    exact Ev.now _
  · simp only [h, if_false]
    refine Ev.bind (spec_SumOf_ev s hs) ?_
    refine Ev.bind (spec_l02Four_ev _) ?_
    have c : s.size + (strOfNums (four (sumN s))).size ≤ 9223372036854775807 := by rw [str_len]; simp [four]; omega
    simp only [c, if_true]
    rw [pSealed_yes (by omega)]
    exact Ev.now _

theorem spec_l05Short_ev (s : ByteArray) (hs : s.size ≤ 1048576) : Ev (fun k => spec_l05Short.f k s) (varB s.size ++ s) := by
  simp only [spec_l05Short.f]
  refine Ev.bind (spec_l01Var_ev s.size (by omega)) ?_
  have hv := varB_size5 (n := s.size) (by omega)
  have c : (varB s.size).size + s.size ≤ 9223372036854775807 := by omega
  simp only [c, if_true]
  exact Ev.now _
theorem gt_nat4 {n : Nat} (h : (n : Int) + 4 > 20000) : ¬ n + 4 ≤ 20000 := by omega
theorem le_nat4 {n : Nat} (h : ¬ (n : Int) + 4 > 20000) : n + 4 ≤ 20000 := by omega
theorem lt_nat4 {n : Nat} (h : n + 4 ≤ 20000) : n ≤ 140737488351232 := by omega
theorem le_nat4' {n : Nat} (h : n + 4 ≤ 20000) : n ≤ 20000 := by omega
theorem le_nat {n : Nat} (h : ¬ (n : Int) > 20000) : n ≤ 20000 := by omega
theorem spec_SnapText_ev (idx t : Int) (conf : List Int) (body : ByteArray) (hc : conf.length ≤ 1048576) (hb : body.size ≤ 1048576) : Ev (fun k => spec_SnapText.f k idx t conf body) (pSnapText idx t conf body) := by
  simp only [spec_SnapText.f]
  refine Ev.bind (spec_ConfText_ev conf (by omega)) ?_
  have hno : ∀ x, ¬ snapOk idx t conf body → Ev (fun k => spec_SnapText.j0 k x true idx t conf body) (pSnapText idx t conf body) := by
    intro x hn
    apply ev_succ
    simp only [spec_SnapText.j0, if_true]
    rw [pSnapText_no hn]
    exact Ev.now _
  by_cases h1 : pConfOk conf = true
  · rw [pConfText_yes h1]
    simp only [if_true]
    refine Ev.bind (spec_l01In_ev _ _ _) ?_
    by_cases h3 : 0 ≤ idx ∧ idx ≤ 1000000
    · simp only [h3, and_self, decide_true, if_true]
      refine Ev.bind (spec_l01In_ev _ _ _) ?_
      by_cases h4 : 0 ≤ t ∧ t ≤ 100000
      · simp only [h4, and_self, decide_true, if_true]
        by_cases h2 : (body.size : Int) > 20000
        · simp only [h2, decide_true]
          exact hno _ (fun h => by have := h.2.2.2.1; omega)
        · simp only [h2, decide_false]
          apply ev_succ
          simp only [spec_SnapText.j0, Bool.false_eq_true, if_false]
          have hl := confOk_len conf h1
          have hcs := confB_size conf
          obtain ⟨n, rfl⟩ := Int.eq_ofNat_of_zero_le h3.1
          obtain ⟨m, rfl⟩ := Int.eq_ofNat_of_zero_le h4.1
          have v1 := varB_size5 (n := n) (by omega)
          have v2 := varB_size5 (n := m) (by omega)
          have v3 := varB_size5 (n := (confB conf).size) (by omega)
          have v4 := varB_size5 (n := body.size) (by omega)
          have hz := snapIn_size (n : Int) (m : Int) (confB conf) body
          rw [Int.toNat_natCast, Int.toNat_natCast] at hz
          refine Ev.bind (spec_l01Var_ev n (by omega)) ?_
          refine Ev.bind (spec_l01Var_ev m (by omega)) ?_
          have c1 : (varB n).size + (varB m).size ≤ 9223372036854775807 := by omega
          simp only [c1, if_true]
          refine Ev.bind (spec_l05Short_ev (confB conf) (by omega)) ?_
          have c2 : (varB n ++ varB m).size + (varB (confB conf).size ++ confB conf).size ≤ 9223372036854775807 := by rw [size_app, size_app]; omega
          simp only [c2, if_true]
          refine Ev.bind (spec_l05Short_ev body hb) ?_
          have c3 : ((varB n ++ varB m) ++ (varB (confB conf).size ++ confB conf)).size + (varB body.size ++ body).size ≤ 9223372036854775807 := by rw [size_app, size_app, size_app, size_app]; omega
          have hin : ((varB n ++ varB m) ++ (varB (confB conf).size ++ confB conf)) ++ (varB body.size ++ body) = snapIn (n : Int) (m : Int) (confB conf) body := by rw [snapIn, Int.toNat_natCast, Int.toNat_natCast]
          have e : wrap64 (((snapIn (n : Int) (m : Int) (confB conf) body).size : Int) + 4) = (snapIn (n : Int) (m : Int) (confB conf) body).size + 4 := w64 (by omega) (by omega)
          simp only [c3, if_true, hin, e]
          by_cases h6 : ((snapIn (n : Int) (m : Int) (confB conf) body).size : Int) + 4 > 20000
          · simp only [h6, if_true]
            rw [pSnapText_no (fun h => gt_nat4 h6 h.2.2.2.2)]
            exact Ev.now _
          · simp only [h6, if_false]
            have h7 := le_nat4 h6
            have h8 := le_nat h2
            refine Ev.bind (spec_Sealed_ev _ (lt_nat4 h7)) ?_
            rw [pSealed_yes (le_nat4' h7), pSnapText_yes ⟨h1, h3, h4, h8, h7⟩]
            exact Ev.now _
      · simp only [h4, decide_false, Bool.false_eq_true, if_false]
        exact hno _ (fun h => h4 h.2.2.1)
    · simp only [h3, decide_false, Bool.false_eq_true, if_false]
      exact hno _ (fun h => h3 h.2.1)
  · rw [pConfText_no h1]
    simp only [Bool.false_eq_true, if_false]
    exact hno _ (fun h => h1 h.1)

theorem spec_l05ReadShort_ev (s : ByteArray) (hs : s.size ≤ 140737488351232) (a : Int) (b : Bool) (ha : curOk s a) : Ev (fun k => spec_l05ReadShort.f k s a b) ((curShS s a b).1, s, (curShS s a b).2.1, (curShS s a b).2.2) := by
  simp only [spec_l05ReadShort.f]
  refine Ev.bind (spec_l05Var_ev s hs a b) ?_
  simp only
  refine Ev.bind (spec_l05Take_ev s hs _ _ _ (curVar_ok ha) (curVar_range s a b)) ?_
  exact Ev.now _
theorem pUnsealed_size' (t : ByteArray) : (pUnsealed t).1.size ≤ t.size := by
  unfold pUnsealed
  split
  · rw [size_ext]; omega
  · exact Nat.zero_le _
theorem pReadConf_len (s : ByteArray) : (pReadConf s).1.length ≤ s.size := by
  unfold pReadConf
  split
  · simp only [bytes_len]; exact Nat.le_refl _
  · simp
theorem spec_ReadSnap_ev (t : ByteArray) (ht : t.size ≤ 1048576) : Ev (fun k => spec_ReadSnap.f k t) (snapS t) := by
  simp only [spec_ReadSnap.f]
  unfold snapS
  simp only
  refine Ev.bind (spec_Unsealed_ev t (by omega)) ?_
  have hsz := pUnsealed_size' t
  obtain ⟨s, ok, hu⟩ : ∃ s ok, pUnsealed t = (s, ok) := ⟨_, _, rfl⟩
  rw [hu] at hsz ⊢
  simp only at hsz ⊢
  have hs : s.size ≤ 140737488351232 := by omega
  have k0 : curOk s 0 := by unfold curOk; omega
  refine Ev.bind (spec_l05Var_ev s hs 0 (!ok)) ?_
  have k1 := curVar_ok (b := !ok) k0
  obtain ⟨x1, a1, b1, e1⟩ : ∃ c a b, curVar s 0 (!ok) = (c, a, b) := ⟨_, _, _, rfl⟩
  rw [e1] at k1 ⊢
  simp only at k1 ⊢
  refine Ev.bind (spec_l05Var_ev s hs a1 b1) ?_
  have k2 := curVar_ok (b := b1) k1
  obtain ⟨x2, a2, b2, e2⟩ : ∃ c a b, curVar s a1 b1 = (c, a, b) := ⟨_, _, _, rfl⟩
  rw [e2] at k2 ⊢
  simp only at k2 ⊢
  refine Ev.bind (spec_l05ReadShort_ev s hs a2 b2 k2) ?_
  have z3 := curShS_size s a2 b2
  have k3 := curShS_ok (b := b2) k2
  obtain ⟨x3, a3, b3, e3⟩ : ∃ c a b, curShS s a2 b2 = (c, a, b) := ⟨_, _, _, rfl⟩
  rw [e3] at z3 k3 ⊢
  simp only at z3 k3 ⊢
  refine Ev.bind (spec_ReadConf_ev x3 (by omega)) ?_
  have hcl := pReadConf_len x3
  refine Ev.bind (spec_l05ReadShort_ev s hs a3 b3 k3) ?_
  have z4 := curShS_size s a3 b3
  obtain ⟨x4, a4, b4, e4⟩ : ∃ c a b, curShS s a3 b3 = (c, a, b) := ⟨_, _, _, rfl⟩
  rw [e4] at z4 ⊢
  simp only at z4 ⊢
  refine Ev.bind (spec_SnapText_ev x1 x2 (pReadConf x3).1 x4 (by omega) (by omega)) ?_
  cases b4 with
  | true => simp only [if_true]; exact Ev.now _
  | false =>
    simp only [Bool.false_eq_true, if_false]
    by_cases h1 : (pSnapText x1 x2 (pReadConf x3).1 x4).2 = true
    · by_cases h2 : (pSnapText x1 x2 (pReadConf x3).1 x4).1 = t
      · simp only [h1, h2, if_true, and_self]; exact Ev.now _
      · have h2' : ¬ (pSnapText x1 x2 (pReadConf x3).1 x4).1.toList = t.toList := fun h => h2 (toList_iff.1 h)
        simp only [h1, h2, h2', if_true, if_false, and_false]; exact Ev.now _
    · simp only [h1, if_false, false_and]; exact Ev.now _

def newStep (b : Int × Int × List Int × ByteArray) (f : S63) : Int × Int × List Int × ByteArray :=
  if pNum 115 1000000 f.f0 ≥ 0 ∧ (snapI f.f1).2.2.2.2 = true ∧ (snapI f.f1).1 = pNum 115 1000000 f.f0 ∧ pNum 115 1000000 f.f0 > b.1 then ((snapI f.f1).1, (snapI f.f1).2.1, (snapI f.f1).2.2.1, (snapI f.f1).2.2.2.1) else b
def newEnd (b : Int × Int × List Int × ByteArray) : Int × Int × List Int × ByteArray × Bool := if b.1 < 0 then (0, 0, [], ⟨#[]⟩, false) else (b.1, b.2.1, b.2.2.1, b.2.2.2, true)
def pNewest (l : List (S63)) : Int × Int × List Int × ByteArray × Bool := if pDiskOk l = true then newEnd (l.foldl newStep (-1, 0, [], ⟨#[]⟩)) else (0, 0, [], ⟨#[]⟩, false)
theorem snapI_len (t : ByteArray) : (snapI t).2.2.1.length ≤ t.size := by
  unfold snapI
  simp only
  split
  · rename_i h
    have h1 : (pUnsealed t).1.size ≤ t.size := pUnsealed_size t
    exact Nat.le_trans (pReadConf_len _) (Nat.le_trans (curShI_size _ _ _) h1)
  · simp
theorem newStep_len (l : List (S63)) (hl : ∀ f ∈ l, f.f1.size ≤ 1048576) : ∀ b : Int × Int × List Int × ByteArray, b.2.2.1.length ≤ 1048576 → (l.foldl newStep b).2.2.1.length ≤ 1048576 := by
  induction l with
  | nil => intro b h; exact h
  | cons f r ih =>
    intro b h
    refine ih (fun x hx => hl x (List.mem_cons_of_mem _ hx)) _ ?_
    unfold newStep
    split
    · exact Nat.le_trans (snapI_len _) (hl f (List.mem_cons_self ..))
    · exact h
theorem pNewest_len (l : List (S63)) : (pNewest l).2.2.1.length ≤ 1048576 := by
  unfold pNewest
  split
  · rename_i h
    unfold newEnd
    split
    · exact Nat.zero_le _
    · exact newStep_len l (fun f hf => by have := ((pDiskOk_files h).2 f hf).2.1; omega) _ (Nat.zero_le _)
  · exact Nat.zero_le _
theorem newStep_yes {b : Int × Int × List Int × ByteArray} {f : S63} (h1 : pNum 115 1000000 f.f0 ≥ 0) (h2 : (snapI f.f1).2.2.2.2 = true) (h3 : (snapI f.f1).1 = pNum 115 1000000 f.f0) (h4 : pNum 115 1000000 f.f0 > b.1) : newStep b f = ((snapI f.f1).1, (snapI f.f1).2.1, (snapI f.f1).2.2.1, (snapI f.f1).2.2.2.1) := by
  unfold newStep; rw [if_pos ⟨h1, h2, h3, h4⟩]
theorem newStep_no {b : Int × Int × List Int × ByteArray} {f : S63} (h : ¬ (pNum 115 1000000 f.f0 ≥ 0 ∧ (snapI f.f1).2.2.2.2 = true ∧ (snapI f.f1).1 = pNum 115 1000000 f.f0 ∧ pNum 115 1000000 f.f0 > b.1)) : newStep b f = b := by
  unfold newStep; rw [if_neg h]

theorem impl_numberOf_ev (s : ByteArray) (hs : s.size ≤ 1048576) (c : UInt8) (most : Nat) : Ev (fun k => impl_numberOf.f k s ⟨#[c]⟩ (most : Int)) (pNum c most s) := by
  unfold impl_numberOf.f
  by_cases h : s.size < 2
  · have h' : (s.size : Int) < 2 := by omega
    simp only [h', if_true]
    apply ev_succ
    simp only [impl_numberOf.j0, if_true]
    exact ev_some (pNum_short c most s h).symm
  · have h' : ¬ (s.size : Int) < 2 := by omega
    have h1 : (1 : Int) ≤ (s.size : Int) := by omega
    have h0 : (0 : Int) ≤ 1 := by decide
    have h00 : (0 : Nat) ≤ 1 := by decide
    obtain ⟨d, t, e, e1, e2⟩ := name_parts s h
    simp only [h', h1, h0, h00, if_false, if_true]
    rw [pNum_cons c most s d t e]
    have el : (⟨#[c]⟩ : ByteArray).toList = [c] := by rw [Lib.toList_data]
    have ed : (s.extract 0 1).toList = [d] := by rw [Lib.toList_data]; exact e1
    rw [el, ed]
    apply ev_succ
    by_cases hd : d = c
    · have hb : (([d] : List UInt8) != [c]) = false := by rw [hd]; simp
      have hlim : (s.extract 1 s.size).size ≤ 281474976710656 := by rw [ByteArray.size_extract]; omega
      have hR : impl_ReadDecimal.f (s.extract 1 s.size) = some (pDec (s.extract 1 s.size)) := by unfold impl_ReadDecimal.f; rw [if_pos hlim]
      simp only [impl_numberOf.j0, hb, Bool.false_eq_true, if_false, h1, if_true, hR, Option.bind_some]
      by_cases hi : isDec t
      · rw [pDec_yes (by rw [e2]; exact hi), e2]
        by_cases hm : dval 0 t ≤ most
        · have hm' : ¬ ((dval 0 t : Nat) : Int) > (most : Int) := by omega
          simp only [if_true, hm', if_false]
          rw [if_pos ⟨hd, hi, hm⟩]
          exact Ev.now _
        · have hm' : ((dval 0 t : Nat) : Int) > (most : Int) := by omega
          simp only [if_true, hm']
          rw [if_neg (fun h => hm h.2.2)]
          exact Ev.now _
      · rw [pDec_no (by rw [e2]; exact hi)]
        simp only [Bool.false_eq_true, if_false]
        rw [if_neg (fun h => hi h.2.1)]
        exact Ev.now _
    · have hb : (([d] : List UInt8) != [c]) = true := by simpa using hd
      simp only [impl_numberOf.j0, hb, if_true]
      rw [if_neg (fun h => hd h.1)]
      exact Ev.now _

theorem impl_DiskOk_l0 (l : List (S63)) (hl : l.length ≤ 1048576) : ∀ (d : Nat) (i : Int), 0 ≤ i → i + d = l.length → Ev (fun k => impl_DiskOk.l0 k l (l.length : Int) i l) (pDiskL (prevN l i) (l.drop i.toNat) && decide (l.length ≤ 30)) := by
  intro d
  induction d with
  | zero =>
    intro i h0 h
    apply ev_succ
    have c : ¬ i < (l.length : Int) := by omega
    simp only [impl_DiskOk.l0, c, if_false]
    rw [List.drop_of_length_le (by omega)]
    apply ev_some
    have e : decide ((l.length : Int) ≤ 30) = decide (l.length ≤ 30) := by rw [decide_eq_decide]; omega
    cases prevN l i <;> simp only [pDiskL, Bool.true_and, e]
  | succ d ih =>
    intro i h0 h
    apply ev_succ
    have c : i < (l.length : Int) := by omega
    have e1 : wrap64 (i + 1) = i + 1 := w64 (by omega) (by omega)
    have e2 : wrap64 (i - 1) = i - 1 := w64 (by omega) (by omega)
    have hh := ih (i + 1) (by omega) (by omega)
    rw [prevN_next l i h0] at hh
    rw [drop_file l i h0 c]
    have k3 : i > 0 → 0 ≤ i - 1 ∧ i - 1 < (l.length : Int) := fun _ => by omega
    have hp0 : ¬ i > 0 → prevN l i = none := fun hi => by rw [prevN, if_pos (by omega)]
    have hp1 : i > 0 → prevN l i = some (rd_T63 l (i - 1)).f0 := fun hi => by rw [prevN, if_neg (by omega)]
    simp only [impl_DiskOk.l0, c, h0, if_true, e1, e2]
    generalize rd_T63 l i = f at hh ⊢
    refine Ev.bind (impl_within_ev _ _ _) ?_
    by_cases a1 : 1 ≤ f.f0.size ∧ f.f0.size ≤ 8
    · have a1' : 1 ≤ (f.f0.size : Int) ∧ (f.f0.size : Int) ≤ 8 := by omega
      by_cases a2 : (f.f1.size : Int) > 20000
      · simp only [a1', and_self, decide_true, if_true, a2]
        apply ev_some
        rw [pDiskL_bad (by simp [pFile]; omega), Bool.false_and]
      · simp only [a1', and_self, decide_true, if_true, a2, if_false]
        refine Ev.bind (impl_within_ev _ _ _) ?_
        by_cases a3 : 0 ≤ f.f2 ∧ f.f2 ≤ (f.f1.size : Int)
        · have hf : pFile f = true := by simp [pFile, a1, a3]; omega
          by_cases hi : i > 0
          · simp only [a3, and_self, decide_true, if_true, hi, (k3 hi).1, (k3 hi).2]
            rw [hp1 hi]
            by_cases hb : Op.bytesLess (rd_T63 l (i - 1)).f0.toList f.f0.toList = true
            · simp only [hb, if_true]
              simpa [pDiskL, hf, hb] using hh
            · simp only [hb, if_false]
              apply ev_some
              simp [pDiskL, hb]
          · simp only [a3, and_self, decide_true, if_true, hi, if_false]
            rw [hp0 hi]
            simpa [pDiskL, hf] using hh
        · simp only [a3, decide_false, Bool.false_eq_true, if_false]
          apply ev_some
          rw [pDiskL_bad (by simp only [pFile, a3, decide_false, Bool.and_false]), Bool.false_and]
    · have a1' : ¬ (1 ≤ (f.f0.size : Int) ∧ (f.f0.size : Int) ≤ 8) := by omega
      simp only [a1', decide_false, Bool.false_eq_true, if_false]
      apply ev_some
      rw [pDiskL_bad (by simp only [pFile, a1, decide_false, Bool.false_and]), Bool.false_and]
theorem impl_DiskOk_ev (l : List (S63)) (hl : l.length ≤ 1048576) : Ev (fun k => impl_DiskOk.f k l) (pDiskOk l) := by
  simp only [impl_DiskOk.f]
  rw [pDiskOk, Bool.and_comm]
  have := impl_DiskOk_l0 l hl l.length 0 (by omega) (by omega)
  simpa [prevN] using this

theorem impl_NewestSnap_l0 (l : List (S63)) (hl : l.length ≤ 1048576) (hok : ∀ f ∈ l, f.f0.size ≤ 1048576 ∧ f.f1.size ≤ 1048576) : ∀ (d : Nat) (i : Int) (b : Int × Int × List Int × ByteArray), 0 ≤ i → i + d = l.length →
    Ev (fun k => impl_NewestSnap.l0 k l (l.length : Int) i b.1 b.2.1 b.2.2.1 b.2.2.2) (newEnd ((l.drop i.toNat).foldl newStep b)) := by
  intro d
  induction d with
  | zero =>
    intro i b h0 h
    apply ev_succ
    have c : ¬ i < (l.length : Int) := by omega
    rw [List.drop_of_length_le (by omega), List.foldl_nil]
    simp only [impl_NewestSnap.l0, c, if_false]
    unfold newEnd
    by_cases e : b.1 < 0
    · simp only [e, if_true]
      exact Ev.now _
    · simp only [e, if_false]
      exact Ev.now _
  | succ d ih =>
    intro i b h0 h
    apply ev_succ
    have c : i < (l.length : Int) := by omega
    have e1 : wrap64 (i + 1) = i + 1 := w64 (by omega) (by omega)
    have hm : rd_T63 l i ∈ l := by
      have hlt : i.toNat < l.length := by omega
      unfold rd_T63
      rw [List.getD_eq_getElem?_getD, List.getElem?_eq_getElem hlt]
      exact List.getElem_mem hlt
    have hf := hok _ hm
    rw [drop_file l i h0 c, List.foldl_cons]
    have q0 : 0 ≤ i + 1 := by omega
    have q1 : i + 1 + d = l.length := by omega
    simp only [impl_NewestSnap.l0, c, h0, if_true, e1]
    generalize rd_T63 l i = f at hf ⊢
    refine Ev.bind (impl_numberOf_ev f.f0 hf.1 115 1000000) ?_
    refine Ev.bind (impl_ReadSnap_ev f.f1 hf.2) ?_
    by_cases c1 : pNum 115 1000000 f.f0 ≥ 0
    · by_cases c2 : (snapI f.f1).2.2.2.2 = true
      · by_cases c3 : (snapI f.f1).1 = pNum 115 1000000 f.f0
        · by_cases c4 : pNum 115 1000000 f.f0 > b.1
          · rw [newStep_yes c1 c2 c3 c4]
            simp only [c1, c2, c3, c4, if_true]
            have := ih (i + 1) ((snapI f.f1).1, (snapI f.f1).2.1, (snapI f.f1).2.2.1, (snapI f.f1).2.2.2.1) q0 q1
            rw [c3] at this
            exact this
          · rw [newStep_no (fun h => c4 h.2.2.2)]
            simp only [c1, c2, c3, c4, if_true, if_false]
            exact ih (i + 1) b q0 q1
        · rw [newStep_no (fun h => c3 h.2.2.1)]
          simp only [c1, c2, c3, if_true, if_false]
          exact ih (i + 1) b q0 q1
      · rw [newStep_no (fun h => c2 h.2.1)]
        simp only [c1, c2, if_true, Bool.false_eq_true, if_false]
        exact ih (i + 1) b q0 q1
    · rw [newStep_no (fun h => c1 h.1)]
      simp only [c1, if_false]
      exact ih (i + 1) b q0 q1
theorem impl_NewestSnap_ev (l : List (S63)) (hl : l.length ≤ 1048576) : Ev (fun k => impl_NewestSnap.f k l) (pNewest l) := by
  unfold impl_NewestSnap.f pNewest
  refine Ev.bind (impl_DiskOk_ev l hl) ?_
  by_cases c : pDiskOk l = true
  · have hf := (pDiskOk_files c).2
    simp only [c, if_true]
    have := impl_NewestSnap_l0 l hl (fun f hf2 => by have := hf f hf2; omega) l.length 0 (-1, 0, [], ⟨#[]⟩) (by decide) (by omega)
    exact this
  · simp only [c, if_false]
    exact Ev.now _

theorem u8s (n : Nat) : UInt8.ofNat ((n : Int)).toNat = UInt8.ofNat n := by rw [Int.toNat_natCast]
def decU : Nat → ByteArray → ByteArray
  | n, s => if n = 0 then s else decU (n / 10) (strOfNums [((48 + n % 10 : Nat) : Int)] ++ s)
termination_by n => n
decreasing_by omega
theorem decU_zero (s : ByteArray) : decU 0 s = s := by rw [decU, if_pos rfl]
theorem decU_more {n : Nat} (h : n ≠ 0) (s : ByteArray) : decU n s = decU (n / 10) (strOfNums [((48 + n % 10 : Nat) : Int)] ++ s) := by rw [decU, if_neg h]
theorem one_str (n : Nat) : strOfNums [(n : Int)] = ⟨[UInt8.ofNat n].toArray⟩ := by
  simp only [strOfNums, List.map_cons, List.map_nil, u8s]
theorem two_str (a b : List UInt8) : (⟨a.toArray⟩ : ByteArray) ++ ⟨b.toArray⟩ = ⟨(a ++ b).toArray⟩ := by
  apply ByteArray.ext
  simp
theorem decU_eq (n : Nat) : ∀ s, n ≠ 0 → decU n s = ⟨(Lib.decDigits n).toArray⟩ ++ s := by
  induction n using Nat.strongRecOn with
  | ind n ih =>
    intro s h
    rw [decU_more h]
    by_cases c : n < 10
    · rw [show n / 10 = 0 by omega, decU_zero, one_str, show n % 10 = n by omega, Lib.decDigits, dif_pos c]
    · rw [ih (n / 10) (by omega) _ (by omega), one_str]
      conv => rhs; rw [Lib.decDigits, dif_neg c, ← two_str]
      exact (ByteArray.append_assoc).symm
theorem spec_l01Figure_ev (d : Int) (h0 : 0 ≤ d) (h1 : d < 10) : spec_l01Figure.f d = some (48 + d) := by
  have e : wrap64 (48 + d) = 48 + d := w64 (by omega) (by omega)
  have e2 : (48 + d) % 256 = 48 + d := by omega
  simp only [spec_l01Figure.f, h1, if_true, e, e2]
theorem spec_Decimal_l0 (neg : Bool) : ∀ (m : Nat) (x : Int) (s : ByteArray), x.natAbs < 10 ^ m → -9223372036854775808 ≤ x → x ≤ 9223372036854775807 → s.size + m ≤ 1000 →
    Ev (fun k => spec_Decimal.l0 k x neg s) (if neg = true then (⟨#[45]⟩ : ByteArray) ++ decU x.natAbs s else decU x.natAbs s) := by
  intro m
  induction m with
  | zero =>
    intro x s h hx hy hs
    apply ev_succ
    have hz : x = 0 := by simp at h; omega
    subst hz
    have c : 1 + s.size ≤ 9223372036854775807 := by omega
    simp only [spec_Decimal.l0, if_true, c, Int.natAbs_zero, decU_zero]
    cases neg <;> simp
  | succ m ih =>
    intro x s h hx hy hs
    by_cases hz : x = 0
    · subst hz
      apply ev_succ
      have c : 1 + s.size ≤ 9223372036854775807 := by omega
      simp only [spec_Decimal.l0, if_true, c, Int.natAbs_zero, decU_zero]
      cases neg <;> simp
    · apply ev_succ
      have hm : x.natAbs / 10 < 10 ^ m := by rw [Nat.pow_succ] at h; omega
      have ht : (Int.tdiv x 10).natAbs = x.natAbs / 10 := by rw [Int.natAbs_tdiv]; rfl
      have et : wrap64 (Int.tdiv x 10) = Int.tdiv x 10 := w64 (by omega) (by omega)
      have hn : x.natAbs ≠ 0 := by omega
      have hd : (Int.tmod x 10).natAbs = x.natAbs % 10 := by rw [Int.natAbs_tmod]; rfl
      have hlast : ∀ y : Int, y = ((48 + x.natAbs % 10 : Nat) : Int) → Ev (fun k => (some ([y] : List Int)).bind fun y_ => (if (strOfNums y_).size + s.size ≤ 9223372036854775807 then spec_Decimal.l0 k (wrap64 (Int.tdiv x 10)) neg (strOfNums y_ ++ s) else none)) (if neg = true then (⟨#[45]⟩ : ByteArray) ++ decU x.natAbs s else decU x.natAbs s) := by
        rintro y rfl
        have c : (strOfNums [((48 + x.natAbs % 10 : Nat) : Int)]).size + s.size ≤ 9223372036854775807 := by rw [str_len]; simp; omega
        simp only [Option.bind_some, c, if_true, et]
        rw [decU_more hn, ← ht]
        refine ih _ _ (by rw [ht]; exact hm) (by omega) (by omega) ?_
        rw [size_app, str_len]; simp; omega
      by_cases c : Int.tmod x 10 < 0
      · have e : wrap64 (-(Int.tmod x 10)) = -(Int.tmod x 10) := w64 (by omega) (by omega)
        simp only [spec_Decimal.l0, hz, if_false, c, if_true, e]
        rw [spec_l01Figure_ev _ (by omega) (by omega)]
        simp only [Option.bind_some]
        exact hlast _ (by omega)
      · simp only [spec_Decimal.l0, hz, if_false, c]
        rw [spec_l01Figure_ev _ (by omega) (by omega)]
        simp only [Option.bind_some]
        exact hlast _ (by omega)
theorem spec_Decimal_ev (n : Int) (h0 : -9223372036854775808 ≤ n) (h1 : n ≤ 9223372036854775807) : Ev (fun k => spec_Decimal.f k n) ⟨(Lib.itoa n).toArray⟩ := by
  by_cases hz : n = 0
  · subst hz
    have e : Lib.itoa 0 = [48] := by
      rw [Lib.itoa, if_neg (by decide), show (0 : Int).toNat = 0 from rfl, Lib.decDigits, dif_pos (by decide)]; rfl
    simp only [spec_Decimal.f, if_true, e]
    exact Ev.now _
  · have key := spec_Decimal_l0 (decide (n < 0)) 20 n ⟨#[]⟩ (by omega) h0 h1 (by decide)
    have hn : n.natAbs ≠ 0 := by omega
    rw [decU_eq _ _ hn] at key
    have e0 : ∀ l : List UInt8, (⟨l.toArray⟩ : ByteArray) ++ (⟨#[]⟩ : ByteArray) = ⟨l.toArray⟩ := fun l => by rw [show (⟨#[]⟩ : ByteArray) = ⟨([] : List UInt8).toArray⟩ from rfl, two_str, List.append_nil]
    rw [e0] at key
    simp only [spec_Decimal.f, hz, if_false]
    by_cases c : n < 0
    · have e1 : Lib.itoa n = [45] ++ Lib.decDigits n.natAbs := by rw [Lib.itoa, if_pos c]; rfl
      rw [e1, ← two_str]
      simpa [c] using key
    · have e1 : Lib.itoa n = Lib.decDigits n.natAbs := by rw [Lib.itoa, if_neg c, show n.toNat = n.natAbs by omega]
      rw [e1]
      simpa [c] using key

theorem bt_get (s : ByteArray) (i : Nat) (h : i < s.data.toList.length) : bt s (i : Int) = (((s.data.toList[i]).toNat : Nat) : Int) := by
  have h2 : i < s.size := by simpa using h
  unfold bt
  rw [Int.toNat_natCast, dif_pos h2]
  simp [ByteArray.getElem_eq_getElem_data]
theorem step_val (v b : Int) (h0 : 0 ≤ v) (h1 : v < 1000000000) (b0 : 48 ≤ b) (b1 : b ≤ 57) : wrap64 (wrap64 (wrap64 (10 * v) + wrap64 b) - 48) = 10 * v + (b - 48) := by
  rw [w64 (x := 10 * v) (by omega) (by omega), w64 (x := b) (by omega) (by omega), w64 (x := 10 * v + b) (by omega) (by omega), w64 (x := 10 * v + b - 48) (by omega) (by omega)]
  omega
theorem step_cast (v b : Int) (n c : Nat) (hv : v = (n : Int)) (hb : b = (c : Int)) (h : 48 ≤ c) : 10 * v + (b - 48) = ((n * 10 + (c - 48) : Nat) : Int) := by omega
theorem spec_ReadDecimal_l0 (s : ByteArray) (hs : s.data.toList.length ≤ 10) : ∀ (m i : Nat) (v : Int), s.data.toList.length - i = m → i ≤ s.data.toList.length → digs (s.data.toList.take i) → v = ((dval 0 (s.data.toList.take i) : Nat) : Int) →
    Ev (fun k => spec_ReadDecimal.l0 k s v (i : Int)) (pDec s) := by
  have hsz : (s.size : Int) = ((s.data.toList.length : Nat) : Int) := by simp
  intro m
  induction m with
  | zero =>
    intro i v hm hi hd hv
    have hi2 : s.data.toList.length ≤ i := by omega
    rw [List.take_of_length_le hi2] at hd hv
    apply ev_succ
    have c1 : ¬ ((i : Int) < (s.size : Int)) := by rw [hsz]; omega
    simp only [spec_ReadDecimal.l0, c1, if_false]
    by_cases c2 : v > 1000000000
    · simp only [c2, if_true]
      rw [pDec_no (fun h => by have := h.2.1; omega)]
      exact Ev.now _
    · simp only [c2, if_false]
      refine Ev.bind (spec_Decimal_ev v (by omega) (by omega)) ?_
      have e : Lib.itoa v = Lib.decDigits (dval 0 s.data.toList) := by rw [hv, itoa_nat]
      by_cases c3 : (⟨(Lib.itoa v).toArray⟩ : ByteArray).toList = s.toList
      · rw [if_pos c3]
        have c4 : Lib.itoa v = s.data.toList := by rw [data_eq, data_eq] at c3; exact c3
        rw [pDec_yes ⟨hd, by omega, by rw [← e]; exact c4⟩, ← hv]
        exact Ev.now _
      · rw [if_neg c3]
        have c4 : ¬ Lib.itoa v = s.data.toList := fun h => c3 (by rw [data_eq, data_eq]; exact h)
        rw [pDec_no (fun h => c4 (by rw [e]; exact h.2.2))]
        exact Ev.now _
  | succ m ih =>
    intro i v hm hi hd hv
    have hi2 : i < s.data.toList.length := by omega
    apply ev_succ
    have c1 : (i : Int) < (s.size : Int) := by rw [hsz]; omega
    have c0 : (0 : Int) ≤ (i : Int) := by omega
    have hb := bt_get s i hi2
    have hlt : (s.data.toList[i]).toNat < 256 := (s.data.toList[i]).toNat_lt
    simp only [spec_ReadDecimal.l0, c1, c0, if_true]
    have hno : ¬ (48 ≤ (s.data.toList[i]).toNat ∧ (s.data.toList[i]).toNat ≤ 57) → ¬ isDec s.data.toList := fun hx h => hx (h.1 _ (List.getElem_mem hi2))
    by_cases c2 : bt s (i : Int) < 48
    · simp only [c2, if_true]
      rw [pDec_no (hno (by omega))]
      exact Ev.now _
    · simp only [c2, if_false]
      by_cases c3 : bt s (i : Int) > 57
      · simp only [c3, if_true]
        rw [pDec_no (hno (by omega))]
        exact Ev.now _
      · simp only [c3, if_false]
        have ht : s.data.toList.take (i + 1) = s.data.toList.take i ++ [s.data.toList[i]] := List.take_succ_eq_append_getElem hi2
        have hd2 : digs (s.data.toList.take (i + 1)) := by
          rw [ht]
          intro c hc
          rcases List.mem_append.mp hc with h | h
          · exact hd c h
          · obtain rfl := List.mem_singleton.mp h
            omega
        have hv2 : dval 0 (s.data.toList.take (i + 1)) = dval 0 (s.data.toList.take i) * 10 + ((s.data.toList[i]).toNat - 48) := by
          rw [ht, dval_append]; rfl
        have hlen : (s.data.toList.take i).length ≤ 9 := by rw [List.length_take]; omega
        have hsmall : dval 0 (s.data.toList.take i) < 1000000000 := by
          have h1 := dval_lt _ hd 0 0 (by decide)
          have h2 : 10 ^ (0 + (s.data.toList.take i).length) ≤ 10 ^ 9 := Nat.pow_le_pow_right (by decide) (by omega)
          exact Nat.lt_of_lt_of_le h1 (Nat.le_trans h2 (by decide))
        have q1 : s.data.toList.length - (i + 1) = m := by omega
        have q2 : i + 1 ≤ s.data.toList.length := by omega
        have v0 : 0 ≤ v := by rw [hv]; exact Int.natCast_nonneg _
        have v1 : v < 1000000000 := by rw [hv]; exact Int.ofNat_lt.mpr hsmall
        have e1 : wrap64 (wrap64 (wrap64 (10 * v) + wrap64 (bt s (i : Int))) - 48) = ((dval 0 (s.data.toList.take (i + 1)) : Nat) : Int) := by
          rw [step_val v (bt s (i : Int)) v0 v1 (by omega) (by omega), hv2]
          exact step_cast _ _ _ _ hv hb (by omega)
        have e2 : wrap64 ((i : Int) + 1) = ((i + 1 : Nat) : Int) := by rw [w64 (by omega) (by omega)]; omega
        rw [e1, e2]
        exact ih (i + 1) _ q1 q2 hd2 rfl
theorem spec_ReadDecimal_ev (s : ByteArray) : Ev (fun k => spec_ReadDecimal.f k s) (pDec s) := by
  have hsz : s.size = s.data.toList.length := by simp
  unfold spec_ReadDecimal.f
  by_cases c : (s.size : Int) > 10
  · simp only [c, if_true]
    rw [pDec_no (fun h => by have := isDec_len h; omega)]
    exact Ev.now _
  · simp only [c, if_false]
    have h := spec_ReadDecimal_l0 s (by omega) s.data.toList.length 0 0 (Nat.sub_zero _) (Nat.zero_le _) (by intro c hc; simp at hc) (by rw [List.take_zero]; rfl)
    rw [show ((0 : Nat) : Int) = 0 from rfl] at h
    exact h

theorem nDigits_le (u : Nat) : Lib.nDigits u ≤ u + 1 := by
  induction u using Nat.strongRecOn with
  | ind u ih =>
    by_cases c : u < 10
    · rw [Lib.nDigits_small c]; omega
    · rw [Lib.nDigits_big c]
      have := ih (u / 10) (by omega)
      omega
theorem itoa_size (n : Int) (h0 : 0 ≤ n) (h1 : n ≤ 1000000) : (⟨(Lib.itoa n).toArray⟩ : ByteArray).size ≤ 1000001 := by
  show (Lib.itoa n).toArray.size ≤ 1000001
  rw [List.size_toArray, Lib.itoa, if_neg (by omega), Lib.decDigits_length]
  have := nDigits_le n.toNat
  omega
def pSName (n : Int) : ByteArray := if 0 ≤ n ∧ n ≤ 1000000 then (⟨#[115]⟩ : ByteArray) ++ ⟨(Lib.itoa n).toArray⟩ else ⟨#[]⟩
theorem spec_SnapName_ev (n : Int) (h0 : -9223372036854775808 ≤ n) (h1 : n ≤ 9223372036854775807) : Ev (fun k => spec_SnapName.f k n) (pSName n) := by
  simp only [spec_SnapName.f]
  refine Ev.bind (spec_l01In_ev _ _ _) ?_
  by_cases c : 0 ≤ n ∧ n ≤ 1000000
  · simp only [decide_eq_true c, if_true]
    refine Ev.bind (spec_Decimal_ev n h0 h1) ?_
    have hs := itoa_size n c.1 (by omega)
    have c2 : 1 + (⟨(Lib.itoa n).toArray⟩ : ByteArray).size ≤ 9223372036854775807 := by omega
    simp only [c2, if_true]
    rw [pSName, if_pos c]
    exact Ev.now _
  · simp only [decide_eq_false c, Bool.false_eq_true, if_false]
    rw [pSName, if_neg c]
    exact Ev.now _
theorem joined_list (c : UInt8) (l : List UInt8) : ((⟨#[c]⟩ : ByteArray) ++ ⟨l.toArray⟩).toList = c :: l := by
  rw [Lib.toList_data, ByteArray.data_append]
  simp

theorem spec_l08Index_ev (s : ByteArray) : Ev (fun k => spec_l08Index.f k s) (pNum 115 1000000 s) := by
  unfold spec_l08Index.f
  by_cases h : s.size < 2
  · have h' : (s.size : Int) < 2 := by omega
    simp only [h', if_true]
    exact ev_some (pNum_short 115 1000000 s h).symm
  · have h' : ¬ (s.size : Int) < 2 := by omega
    have h1 : (1 : Int) ≤ (s.size : Int) := by omega
    obtain ⟨d, t, e, e1, e2⟩ := name_parts s h
    simp only [h', h1, if_false, if_true]
    rw [pNum_cons 115 1000000 s d t e]
    refine Ev.bind (spec_ReadDecimal_ev _) ?_
    have es : s.toList = d :: t := by rw [Lib.toList_data]; exact e
    by_cases hi : isDec t
    · rw [pDec_yes (by rw [e2]; exact hi), e2]
      simp only [if_true]
      have hm := hi.2.1
      refine Ev.bind (spec_SnapName_ev _ (by omega) (by omega)) ?_
      rw [es]
      by_cases c : (0 : Int) ≤ ((dval 0 t : Nat) : Int) ∧ ((dval 0 t : Nat) : Int) ≤ 1000000
      · have hj : (pSName ((dval 0 t : Nat) : Int)).toList = 115 :: t := by rw [pSName, if_pos c, isDec_itoa hi, joined_list]
        rw [hj]
        by_cases hd : d = 115
        · rw [hd, if_pos rfl, if_pos ⟨rfl, hi, by omega⟩]
          exact Ev.now _
        · rw [if_neg (fun h => hd (by injection h with h1 _; exact h1.symm)), if_neg (fun h => hd h.1)]
          exact Ev.now _
      · have hj : (pSName ((dval 0 t : Nat) : Int)).toList = [] := by rw [pSName, if_neg c, Lib.toList_data]
        rw [hj, if_neg (by intro h; cases h), if_neg (fun h => c ⟨by omega, by omega⟩)]
        exact Ev.now _
    · rw [pDec_no (by rw [e2]; exact hi), if_neg (fun h => hi h.2.1)]
      simp only [Bool.false_eq_true, if_false]
      exact Ev.now _

theorem spec_l03Name_ev (s : ByteArray) : Ev (fun _ => spec_l03Name.f s) (decide (1 ≤ s.size ∧ s.size ≤ 8)) := by
  simp only [spec_l03Name.f]
  refine Ev.bind (spec_l01In_ev _ _ _) ?_
  apply ev_some
  rw [decide_eq_decide]
  omega
theorem spec_DiskOk_l0 (l : List (S63)) (hl : l.length ≤ 1048576) : ∀ (d : Nat) (i : Int), 0 ≤ i → i + d = l.length → Ev (fun k => spec_DiskOk.l0 k i l) (pDiskL (prevN l i) (l.drop i.toNat)) := by
  intro d
  induction d with
  | zero =>
    intro i h0 h
    apply ev_succ
    have c : ¬ i < (l.length : Int) := by omega
    simp only [spec_DiskOk.l0, c, if_false]
    rw [List.drop_of_length_le (by omega)]
    cases prevN l i <;> exact Ev.now _
  | succ d ih =>
    intro i h0 h
    apply ev_succ
    have c : i < (l.length : Int) := by omega
    have e1 : wrap64 (i + 1) = i + 1 := w64 (by omega) (by omega)
    have e2 : wrap64 (i - 1) = i - 1 := w64 (by omega) (by omega)
    have hh := ih (i + 1) (by omega) (by omega)
    rw [prevN_next l i h0] at hh
    rw [drop_file l i h0 c]
    have k3 : i > 0 → 0 ≤ i - 1 ∧ i - 1 < (l.length : Int) := fun _ => by omega
    have hp0 : ¬ i > 0 → prevN l i = none := fun hi => by rw [prevN, if_pos (by omega)]
    have hp1 : i > 0 → prevN l i = some (rd_T63 l (i - 1)).f0 := fun hi => by rw [prevN, if_neg (by omega)]
    simp only [spec_DiskOk.l0, c, h0, if_true, e1, e2]
    generalize rd_T63 l i = f at hh ⊢
    refine Ev.bind (spec_l03Name_ev _) ?_
    by_cases a1 : 1 ≤ f.f0.size ∧ f.f0.size ≤ 8
    · by_cases a2 : (f.f1.size : Int) > 20000
      · simp only [a1, and_self, decide_true, if_true, a2]
        apply ev_some
        rw [pDiskL_bad (by simp [pFile]; omega)]
      · simp only [a1, and_self, decide_true, if_true, a2, if_false]
        refine Ev.bind (spec_l01In_ev _ _ _) ?_
        by_cases a3 : 0 ≤ f.f2 ∧ f.f2 ≤ (f.f1.size : Int)
        · have hf : pFile f = true := by simp [pFile, a1, a3]; omega
          by_cases hi : i > 0
          · simp only [a3, and_self, decide_true, if_true, hi, (k3 hi).1, (k3 hi).2]
            rw [hp1 hi]
            by_cases hb : Op.bytesLess (rd_T63 l (i - 1)).f0.toList f.f0.toList = true
            · simp only [hb, if_true]
              simpa [pDiskL, hf, hb] using hh
            · simp only [hb, if_false]
              apply ev_some
              simp [pDiskL, hb]
          · simp only [a3, and_self, decide_true, if_true, hi, if_false]
            rw [hp0 hi]
            simpa [pDiskL, hf] using hh
        · simp only [a3, decide_false, Bool.false_eq_true, if_false]
          apply ev_some
          rw [pDiskL_bad (by simp only [pFile, a3, decide_false, Bool.and_false])]
    · simp only [a1, decide_false, Bool.false_eq_true, if_false]
      apply ev_some
      rw [pDiskL_bad (by simp only [pFile, a1, decide_false, Bool.false_and])]
theorem spec_DiskOk_ev (l : List (S63)) (hl : l.length ≤ 1048576) : Ev (fun k => spec_DiskOk.f k l) (pDiskOk l) := by
  simp only [spec_DiskOk.f]
  by_cases h : (l.length : Int) > 30
  · simp only [h, if_true]
    apply ev_some
    rw [pDiskOk, decide_eq_false (by omega), Bool.false_and]
  · simp only [h, if_false]
    rw [pDiskOk, decide_eq_true (by omega), Bool.true_and]
    have := spec_DiskOk_l0 l hl l.length 0 (by omega) (by omega)
    simpa [prevN] using this

theorem spec_NewestSnap_l0 (l : List (S63)) (hl : l.length ≤ 1048576) (hd : pDiskOk l = true) (hok : ∀ f ∈ l, f.f0.size ≤ 1048576 ∧ f.f1.size ≤ 1048576) : ∀ (d : Nat) (i : Int) (b : Int × Int × List Int × ByteArray), 0 ≤ i → i + d = l.length →
    Ev (fun k => spec_NewestSnap.l0 k i l b.1 b.2.1 b.2.2.1 b.2.2.2) (newEnd ((l.drop i.toNat).foldl newStep b)) := by
  intro d
  induction d with
  | zero =>
    intro i b h0 h
    apply ev_succ
    have c : ¬ i < (l.length : Int) := by omega
    rw [List.drop_of_length_le (by omega), List.foldl_nil]
    simp only [spec_NewestSnap.l0, c, if_false]
    apply ev_succ
    simp only [spec_NewestSnap.j1, Bool.false_eq_true, if_false]
    unfold newEnd
    by_cases e : b.1 < 0
    · simp only [e, if_true]
      exact Ev.now _
    · simp only [e, if_false]
      exact Ev.now _
  | succ d ih =>
    intro i b h0 h
    apply ev_succ
    have c : i < (l.length : Int) := by omega
    have e1 : wrap64 (i + 1) = i + 1 := w64 (by omega) (by omega)
    have hm : rd_T63 l i ∈ l := by
      have hlt : i.toNat < l.length := by omega
      unfold rd_T63
      rw [List.getD_eq_getElem?_getD, List.getElem?_eq_getElem hlt]
      exact List.getElem_mem hlt
    have hf := hok _ hm
    rw [drop_file l i h0 c, List.foldl_cons]
    have q0 : 0 ≤ i + 1 := by omega
    have q1 : i + 1 + d = l.length := by omega
    simp only [spec_NewestSnap.l0, c, h0, if_true, e1]
    refine Ev.bind (spec_DiskOk_ev l hl) ?_
    rw [hd]
    apply ev_succ
    simp only [spec_NewestSnap.j1, c, h0, if_true, e1]
    generalize rd_T63 l i = f at hf ⊢
    refine Ev.bind (spec_l08Index_ev f.f0) ?_
    have hSn := spec_ReadSnap_ev f.f1 hf.2
    rw [← snap_same] at hSn
    refine Ev.bind hSn ?_
    by_cases c1 : pNum 115 1000000 f.f0 ≥ 0
    · by_cases c2 : (snapI f.f1).2.2.2.2 = true
      · by_cases c3 : (snapI f.f1).1 = pNum 115 1000000 f.f0
        · by_cases c4 : pNum 115 1000000 f.f0 > b.1
          · rw [newStep_yes c1 c2 c3 c4]
            simp only [c1, c2, c3, c4, if_true]
            have := ih (i + 1) ((snapI f.f1).1, (snapI f.f1).2.1, (snapI f.f1).2.2.1, (snapI f.f1).2.2.2.1) q0 q1
            rw [c3] at this
            exact this
          · rw [newStep_no (fun h => c4 h.2.2.2)]
            simp only [c1, c2, c3, c4, if_true, if_false]
            exact ih (i + 1) b q0 q1
        · rw [newStep_no (fun h => c3 h.2.2.1)]
          simp only [c1, c2, c3, if_true, if_false]
          exact ih (i + 1) b q0 q1
      · rw [newStep_no (fun h => c2 h.2.1)]
        simp only [c1, c2, if_true, Bool.false_eq_true, if_false]
        exact ih (i + 1) b q0 q1
    · rw [newStep_no (fun h => c1 h.1)]
      simp only [c1, if_false]
      exact ih (i + 1) b q0 q1
theorem spec_NewestSnap_ev (l : List (S63)) (hl : l.length ≤ 1048576) : Ev (fun k => spec_NewestSnap.f k l) (pNewest l) := by
  unfold spec_NewestSnap.f pNewest
  by_cases c : pDiskOk l = true
  · have hf := (pDiskOk_files c).2
    rw [if_pos c]
    exact spec_NewestSnap_l0 l hl c (fun f hf2 => by have := hf f hf2; omega) l.length 0 (-1, 0, [], ⟨#[]⟩) (by decide) (by omega)
  · rw [if_neg c]
    have c' : pDiskOk l = false := by simpa using c
    apply ev_succ
    by_cases h : (0 : Int) < (l.length : Int)
    · simp only [spec_NewestSnap.l0, h, if_true]
      refine Ev.bind (spec_DiskOk_ev l hl) ?_
      rw [c']
      apply ev_succ
      simp only [spec_NewestSnap.j1, Bool.false_eq_true, if_false, show (-1 : Int) < 0 by decide, if_true]
      exact Ev.now _
    · simp only [spec_NewestSnap.l0, h, if_false]
      apply ev_succ
      simp only [spec_NewestSnap.j1, Bool.false_eq_true, if_false, show (-1 : Int) < 0 by decide, if_true]
      exact Ev.now _

def ltF (a b : S63) : Bool := Op.bytesLess a.f0.toList b.f0.toList
def pPut (l : List (S63)) (f : S63) : List (S63) := l.filter (fun x => ltF x f) ++ (f :: l.filter (fun x => ltF f x))
theorem pPut_len (l : List (S63)) (f : S63) : (pPut l f).length ≤ l.length + 1 := by
  have := filter_two (fun x => ltF x f) (fun x => ltF f x) (fun x h => bl_asymm h) l
  simp only [pPut, List.length_append, List.length_cons]
  omega
theorem pDiskL_iff (l : List (S63)) : ∀ o : Option ByteArray, pDiskL o l = true ↔ ((∀ f ∈ l, pFile f = true) ∧ l.Pairwise (fun a b => ltF a b = true) ∧ ∀ q, o = some q → ∀ f ∈ l, Op.bytesLess q.toList f.f0.toList = true) := by
  induction l with
  | nil =>
    intro o
    cases o <;> simp [pDiskL]
  | cons x l ih =>
    intro o
    have hx := ih (some x.f0)
    have e1 : pDiskL o (x :: l) = true ↔ (pFile x = true ∧ (∀ q, o = some q → Op.bytesLess q.toList x.f0.toList = true) ∧ pDiskL (some x.f0) l = true) := by
      cases o with
      | none => simp [pDiskL]
      | some q => simp [pDiskL, and_assoc]
    rw [e1, hx]
    constructor
    · rintro ⟨h1, h2, h3, h4, h5⟩
      refine ⟨fun f hf => ?_, List.pairwise_cons.2 ⟨fun f hf => h5 _ rfl f hf, h4⟩, fun q hq f hf => ?_⟩
      · rcases List.mem_cons.1 hf with rfl | hf
        · exact h1
        · exact h3 f hf
      · rcases List.mem_cons.1 hf with rfl | hf
        · exact h2 q hq
        · exact bl_trans _ _ _ (h2 q hq) (h5 _ rfl f hf)
    · rintro ⟨h1, h2, h3⟩
      rw [List.pairwise_cons] at h2
      exact ⟨h1 x List.mem_cons_self, fun q hq => h3 q hq x List.mem_cons_self, fun f hf => h1 f (List.mem_cons_of_mem _ hf), h2.2, fun q hq f hf => by cases hq; exact h2.1 f hf⟩
theorem pPut_ok {l : List (S63)} {f : S63} (h : pDiskL none l = true) (hf : pFile f = true) : pDiskL none (pPut l f) = true := by
  rw [pDiskL_iff] at h ⊢
  refine ⟨fun x hx => ?_, ?_, fun q hq => by cases hq⟩
  · simp only [pPut, List.mem_append, List.mem_cons, List.mem_filter] at hx
    rcases hx with hx | rfl | hx
    · exact h.1 x hx.1
    · exact hf
    · exact h.1 x hx.1
  · unfold pPut
    rw [List.pairwise_append]
    refine ⟨h.2.1.filter _, List.pairwise_cons.2 ⟨fun x hx => (List.mem_filter.1 hx).2, h.2.1.filter _⟩, fun a ha b hb => ?_⟩
    have ha := (List.mem_filter.1 ha).2
    rcases List.mem_cons.1 hb with rfl | hb
    · exact ha
    · exact bl_trans _ _ _ ha (List.mem_filter.1 hb).2

def pAtF (n : ByteArray) (l : List (S63)) (i : Nat) : Int := Lib.idxByFrom (fun (_ : S63) y => y.f0.toList == n.toList) z63 l i
theorem pAtF_nil (n : ByteArray) (i : Nat) : pAtF n [] i = -1 := rfl
theorem pAtF_cons (n : ByteArray) (f : S63) (l : List (S63)) (i : Nat) : pAtF n (f :: l) i = if (f.f0.toList == n.toList) = true then (i : Int) else pAtF n l (i + 1) := rfl
theorem pAtF_in (n : ByteArray) : ∀ (l : List (S63)) (i : Nat), pAtF n l i = -1 ∨ ((i : Int) ≤ pAtF n l i ∧ pAtF n l i < i + l.length) := by
  intro l
  induction l with
  | nil => intro i; exact Or.inl rfl
  | cons f l ih =>
    intro i
    rw [pAtF_cons]
    split
    · right; rw [List.length_cons]; omega
    · rcases ih (i + 1) with h | h
      · exact Or.inl h
      · right; rw [List.length_cons]; omega
def pAt (l : List (S63)) (n : ByteArray) : Int := pAtF n l 0
def pFileAt (l : List (S63)) (n : ByteArray) : ByteArray × Bool := if pAt l n < 0 then (⟨#[]⟩, false) else ((rd_T63 l (pAt l n)).f1, true)

/-- Of a list in order, in which what is of the one kind stands ahead of what is of the other: picked together, or one kind behind the other. -/
theorem filter_or {α : Type} (R : α → α → Prop) (A B : α → Bool) (h1 : ∀ x, A x = true → B x = true → False) (h2 : ∀ x y, R x y → B x = true → A y = true → False) : ∀ l : List α, l.Pairwise R → l.filter (fun x => A x || B x) = l.filter A ++ l.filter B
  | [], _ => rfl
  | x :: r, h => by
    rw [List.pairwise_cons] at h
    have ih := filter_or R A B h1 h2 r h.2
    by_cases a : A x = true
    · have b : B x = false := by
        cases hb : B x with
        | false => rfl
        | true => exact (h1 x a hb).elim
      simp only [List.filter_cons, a, b, Bool.true_or, if_true, Bool.false_eq_true, if_false, List.cons_append, ih]
    · have a' : A x = false := by simpa using a
      by_cases b : B x = true
      · have hA : r.filter A = [] := by
          rw [List.filter_eq_nil_iff]
          intro y hy hay
          exact h2 x y (h.1 y hy) b hay
        simp only [List.filter_cons, a', b, Bool.false_or, if_true, Bool.false_eq_true, if_false, ih, hA, List.nil_append]
      · have b' : B x = false := by simpa using b
        simp only [List.filter_cons, a', b', Bool.or_false, Bool.false_eq_true, if_false, ih]
/-- Of a list in order by names: the files of one name are one, or none. -/
theorem filter_one (n : ByteArray) : ∀ (l : List (S63)) (i : Nat), l.Pairwise (fun a b => ltF a b = true) → (pAtF n l i < 0 ∧ l.filter (fun f => f.f0.toList == n.toList) = []) ∨ (0 ≤ pAtF n l i ∧ ∃ f : S63, f.f0.toList = n.toList ∧ l.filter (fun f => f.f0.toList == n.toList) = [f])
  | [], i, _ => Or.inl ⟨by rw [pAtF_nil]; decide, rfl⟩
  | x :: r, i, h => by
    rw [List.pairwise_cons] at h
    rw [pAtF_cons]
    by_cases c : (x.f0.toList == n.toList) = true
    · right
      rw [if_pos c]
      refine ⟨by omega, x, by simpa using c, ?_⟩
      rw [List.filter_cons, if_pos c]
      have : r.filter (fun f => f.f0.toList == n.toList) = [] := by
        rw [List.filter_eq_nil_iff]
        intro y hy he
        have h3 := h.1 y hy
        unfold ltF at h3
        have e1 : x.f0.toList = n.toList := by simpa using c
        have e2 : y.f0.toList = n.toList := by simpa using he
        rw [e1, e2, bl_irrefl] at h3
        cases h3
      rw [this]
    · rw [if_neg c, List.filter_cons, if_neg c]
      exact filter_one n r (i + 1) h.2

def nDrop (n : ByteArray) : S67 := ⟨4, n, ⟨#[]⟩, ⟨#[]⟩⟩
def isNew (n : ByteArray) (f : S63) : Bool := f.f0.toList == n.toList
def isOld (c : UInt8) (most : Nat) (i : Int) (f : S63) : Bool := decide (pNum c most f.f0 ≥ 0 ∧ pNum c most f.f0 ≠ i)
def pDrops (l : List (S63)) (n : ByteArray) (c : UInt8) (most : Nat) (i : Int) : List (S67) := (l.filter (fun f => isNew n f || isOld c most i f)).map (fun f => nDrop f.f0)
def pOlds (l : List (S63)) (c : UInt8) (most : Nat) (i : Int) : List (S67) := (l.filter (isOld c most i)).map (fun f => nDrop f.f0)
def pNews (l : List (S63)) (n : ByteArray) : List (S67) := if pAt l n ≥ 0 then [nDrop n] else []
theorem isDec_head {t : List UInt8} (h : isDec t) : ∃ d r, t = d :: r ∧ 48 ≤ d.toNat := by
  cases t with
  | nil => exact absurd rfl (isDec_ne h)
  | cons d r => exact ⟨d, r, rfl, (h.1 d List.mem_cons_self).1⟩
theorem pNum_ge {c : UInt8} {most : Nat} {s : ByteArray} (h : pNum c most s ≥ 0) : ∃ t, s.data.toList = c :: t ∧ isDec t ∧ dval 0 t ≤ most ∧ pNum c most s = ((dval 0 t : Nat) : Int) := by
  unfold pNum at h ⊢
  split at h
  · omega
  · rename_i d t e
    split at h
    · rename_i q
      obtain ⟨rfl, q2, q3⟩ := q
      exact ⟨t, by rw [e], q2, q3, by rw [if_pos ⟨rfl, q2, q3⟩]⟩
    · omega
theorem pDrops_two {l : List (S63)} {n : ByteArray} {c : UInt8} {most : Nat} {i : Int} (h : l.Pairwise (fun a b => ltF a b = true)) (hn : n.toList = [c, 43]) : pDrops l n c most i = pNews l n ++ pOlds l c most i := by
  unfold pDrops pNews pOlds
  rw [filter_or (fun a b : S63 => ltF a b = true) (isNew n) (isOld c most i) ?_ ?_ l h, List.map_append]
  · congr 1
    have e : (isNew n : S63 → Bool) = fun f => f.f0.toList == n.toList := rfl
    unfold pAt
    rcases filter_one n l 0 h with ⟨h1, h2⟩ | ⟨h1, f, h2, h3⟩
    · rw [e, h2, if_neg (by omega)]
      rfl
    · rw [e, h3, if_pos (by omega)]
      have : f.f0 = n := toList_iff.1 h2
      rw [List.map_singleton, this]
  · intro x hx hy
    unfold isNew at hx
    unfold isOld at hy
    have hx : x.f0.toList = n.toList := by simpa using hx
    have hy := (of_decide_eq_true hy).1
    obtain ⟨t, e, d, _, _⟩ := pNum_ge hy
    rw [hn, Lib.toList_data, e] at hx
    obtain ⟨g, r, rfl, hg⟩ := isDec_head d
    have : g = 43 := by injection hx with _ q; injection q
    rw [this] at hg
    exact absurd hg (by decide)
  · intro x y hR hx hy
    unfold isNew at hy
    unfold isOld at hx
    have hy : y.f0.toList = n.toList := by simpa using hy
    have hx := (of_decide_eq_true hx).1
    obtain ⟨t, e, d, _, _⟩ := pNum_ge hx
    unfold ltF at hR
    obtain ⟨g, r, rfl, hg⟩ := isDec_head d
    rw [hy, hn, Lib.toList_data, e] at hR
    have q1 : ¬ g < 43 := by
      intro q
      have : g.toNat < 43 := q
      omega
    have q2 : g ≠ 43 := by
      intro q
      rw [q] at hg
      exact absurd hg (by decide)
    simp [Op.bytesLess, q1, q2] at hR
/-- A name of a number is not the name of another number. -/
theorem name_iff {c : UInt8} {most : Nat} {s : ByteArray} {i : Int} (hs : pNum c most s ≥ 0) (h0 : 0 ≤ i) : s.toList = c :: Lib.itoa i ↔ pNum c most s = i := by
  obtain ⟨t, e, d, hm, hp⟩ := pNum_ge hs
  rw [hp, Lib.toList_data, e]
  constructor
  · intro h
    injection h with _ h
    have hb := d.2.1
    have h2 := isDec_itoa d
    rw [h] at h2 hb ⊢
    obtain ⟨k, rfl⟩ : ∃ k : Nat, i = (k : Int) := ⟨i.toNat, by omega⟩
    rw [itoa_nat]
    rw [(dec_ok k).2.1]
  · intro h
    rw [← h, isDec_itoa d]

theorem spec_l03At_l0 (l : List (S63)) (n : ByteArray) (hl : l.length ≤ 1048576) : ∀ (d i : Nat), i + d = l.length → Ev (fun k => spec_l03At.l0 k n (i : Int) l) (pAtF n (l.drop i) i) := by
  intro d
  induction d with
  | zero =>
    intro i h
    apply ev_succ
    have c : ¬ (i : Int) < (l.length : Int) := by omega
    simp only [spec_l03At.l0, c, if_false]
    rw [List.drop_of_length_le (by omega)]
    exact Ev.now _
  | succ d ih =>
    intro i h
    apply ev_succ
    have c : (i : Int) < (l.length : Int) := by omega
    have c0 : (0 : Int) ≤ (i : Int) := by omega
    have e1 : wrap64 ((i : Int) + 1) = ((i + 1 : Nat) : Int) := w64 (by omega) (by omega)
    have hd := drop_file l i c0 c
    rw [show ((i : Int)).toNat = i by omega, show ((i : Int) + 1).toNat = i + 1 by omega] at hd
    have hh := ih (i + 1) (by omega)
    rw [hd, pAtF_cons]
    by_cases hq : (rd_T63 l (i : Int)).f0.toList = n.toList
    · simp only [spec_l03At.l0, c, c0, hq, if_true, beq_self_eq_true]
      exact Ev.now _
    · have hq2 : ¬ ((rd_T63 l (i : Int)).f0.toList == n.toList) = true := by simpa using hq
      simp only [spec_l03At.l0, c, c0, hq, if_true, if_false, e1]
      rw [if_neg hq2]
      exact hh
theorem spec_l03At_ev (l : List (S63)) (n : ByteArray) (hl : l.length ≤ 1048576) : Ev (fun k => spec_l03At.f k l n) (pAt l n) := by
  simp only [spec_l03At.f]
  exact spec_l03At_l0 l n hl l.length 0 (by omega)

def sNew : ByteArray := ⟨#[115, 43]⟩
theorem sNew_list : sNew.toList = [115, 43] := by unfold sNew; rw [Lib.toList_data]
theorem empty_list : (⟨#[]⟩ : ByteArray).toList = [] := by rw [Lib.toList_data]
theorem impl_SnapName_ev (n : Int) (h0 : -9223372036854775808 ≤ n) (h1 : n ≤ 9223372036854775807) : Ev (fun _ => impl_SnapName.f n) (pSName n) := by
  simp only [impl_SnapName.f]
  refine Ev.bind (impl_isIndex_ev n) ?_
  unfold pSName
  by_cases c : 0 ≤ n ∧ n ≤ 1000000
  · have hD : impl_Decimal.f n = some ⟨(Lib.itoa n).toArray⟩ := by unfold impl_Decimal.f; rw [if_pos h0, if_pos h1]
    have hs := itoa_size n c.1 (by omega)
    have c2 : 1 + (⟨(Lib.itoa n).toArray⟩ : ByteArray).size ≤ 9223372036854775807 := by omega
    simp only [decide_eq_true c, if_true, hD, Option.bind_some, c2]
    rw [if_pos c]
    exact Ev.now _
  · simp only [decide_eq_false c, Bool.false_eq_true, if_false]
    rw [if_neg c]
    exact Ev.now _
theorem impl_isSnap_ev (f : S63) (hf : f.f0.size ≤ 1048576) : Ev (fun k => impl_isSnap.f k f.f0 f.f1 f.f2) (decide (pNum 115 1000000 f.f0 ≥ 0)) := by
  simp only [impl_isSnap.f]
  exact Ev.bind (impl_numberOf_ev f.f0 hf 115 1000000) (Ev.now _)
theorem sName_iff {s : ByteArray} {i : Int} (hs : pNum 115 1000000 s ≥ 0) (h0 : 0 ≤ i) (h1 : i ≤ 1000000) : s.toList = (pSName i).toList ↔ pNum 115 1000000 s = i := by
  rw [pSName, if_pos ⟨h0, h1⟩, joined_list]
  exact name_iff hs h0
theorem spec_l08New_ev (l : List (S63)) (hl : l.length ≤ 1048576) : Ev (fun k => spec_l08New.f k l) (pNews l sNew) := by
  simp only [spec_l08New.f]
  refine Ev.bind (spec_l03At_ev l sNew hl) ?_
  unfold pNews
  by_cases c : pAt l sNew ≥ 0
  · simp only [c, if_true]
    exact Ev.now _
  · simp only [c, if_false]
    exact Ev.now _
theorem file_mem (l : List (S63)) (i : Int) (h0 : 0 ≤ i) (h1 : i < (l.length : Int)) : rd_T63 l i ∈ l := by
  have hlt : i.toNat < l.length := by omega
  unfold rd_T63
  rw [List.getD_eq_getElem?_getD, List.getElem?_eq_getElem hlt]
  exact List.getElem_mem hlt
theorem spec_l08Drops_l0 (l : List (S63)) (hl : l.length ≤ 1048576) (idx : Int) : ∀ (d : Nat) (i : Int) (acc R : List (S67)), 0 ≤ i → i + d = l.length → (acc.length : Int) ≤ i → acc ++ pOlds (l.drop i.toNat) 115 1000000 idx = R →
    Ev (fun k => spec_l08Drops.l0 k idx acc i l) R := by
  intro d
  induction d with
  | zero =>
    intro i acc R h0 h ha hR
    apply ev_succ
    have c : ¬ i < (l.length : Int) := by omega
    rw [List.drop_of_length_le (by omega)] at hR
    simp only [pOlds, List.filter_nil, List.map_nil, List.append_nil] at hR
    simp only [spec_l08Drops.l0, c, if_false]
    exact ev_some hR
  | succ d ih =>
    intro i acc R h0 h ha hR
    apply ev_succ
    have c : i < (l.length : Int) := by omega
    have e1 : wrap64 (i + 1) = i + 1 := w64 (by omega) (by omega)
    have ca : acc.length < 2513169434916 := by omega
    have hd := drop_file l i h0 c
    rw [hd] at hR
    simp only [spec_l08Drops.l0, c, h0, if_true, e1]
    refine Ev.bind (spec_l08Index_ev _) ?_
    have q0 : 0 ≤ i + 1 := by omega
    have q1 : i + 1 + d = l.length := by omega
    generalize rd_T63 l i = f at hR ⊢
    by_cases c1 : pNum 115 1000000 f.f0 ≥ 0
    · by_cases c2 : pNum 115 1000000 f.f0 = idx
      · have hno : isOld 115 1000000 idx f = false := by unfold isOld; exact decide_eq_false (fun h => h.2 c2)
        simp only [c1, c2, if_true]
        rw [pOlds, List.filter_cons_of_neg (by rw [hno]; decide)] at hR
        have c1' : idx ≥ 0 := by omega
        simp only [c1', if_true]
        exact ih (i + 1) acc R q0 q1 (by omega) hR
      · have hyes : isOld 115 1000000 idx f = true := by unfold isOld; exact decide_eq_true ⟨c1, c2⟩
        simp only [c1, c2, if_true, if_false, ca]
        rw [pOlds, List.filter_cons_of_pos hyes, List.map_cons] at hR
        refine ih (i + 1) (acc ++ [nDrop f.f0]) R q0 q1 (by rw [List.length_append, List.length_singleton]; omega) ?_
        rw [List.append_assoc]
        exact hR
    · have hno : isOld 115 1000000 idx f = false := by unfold isOld; exact decide_eq_false (fun h => c1 h.1)
      simp only [c1, if_false]
      rw [pOlds, List.filter_cons_of_neg (by rw [hno]; decide)] at hR
      exact ih (i + 1) acc R q0 q1 (by omega) hR
theorem spec_l08Drops_ev (l : List (S63)) (hl : l.length ≤ 1048576) (idx : Int) : Ev (fun k => spec_l08Drops.f k l idx) (pOlds l 115 1000000 idx) := by
  simp only [spec_l08Drops.f]
  exact spec_l08Drops_l0 l hl idx l.length 0 [] _ (by omega) (by omega) (by simp) (by simp)
theorem pOlds_len (l : List (S63)) (c : UInt8) (m : Nat) (i : Int) : (pOlds l c m i).length ≤ l.length := by
  unfold pOlds
  rw [List.length_map]
  exact List.length_filter_le _ _
theorem pNews_len (l : List (S63)) (n : ByteArray) : (pNews l n).length ≤ 1 := by
  unfold pNews
  split
  · exact Nat.le_refl _
  · exact Nat.zero_le _

theorem newStep_idx (l : List (S63)) : ∀ b : Int × Int × List Int × ByteArray, -1 ≤ b.1 ∧ b.1 ≤ 1000000 → -1 ≤ (l.foldl newStep b).1 ∧ (l.foldl newStep b).1 ≤ 1000000 := by
  induction l with
  | nil => intro b h; exact h
  | cons f r ih =>
    intro b h
    refine ih _ ?_
    unfold newStep
    split
    · rename_i q
      have := pNum_range 115 1000000 f.f0
      show -1 ≤ (snapI f.f1).1 ∧ (snapI f.f1).1 ≤ 1000000
      rw [q.2.2.1]
      omega
    · exact h
theorem pNewest_idx {l : List (S63)} (h : (pNewest l).2.2.2.2 = true) : pDiskOk l = true ∧ 0 ≤ (pNewest l).1 ∧ (pNewest l).1 ≤ 1000000 := by
  unfold pNewest at h ⊢
  split at h
  · rename_i c
    rw [if_pos c]
    have hi := newStep_idx l (-1, 0, [], ⟨#[]⟩) ⟨by decide, by decide⟩
    unfold newEnd at h ⊢
    split at h
    · cases h
    · rename_i d
      rw [if_neg d]
      simp only
      exact ⟨c, by omega, hi.2⟩
  · cases h
def pShed (l : List (S63)) : List (S67) := if (pNewest l).2.2.2.2 = true then pDrops l sNew 115 1000000 (pNewest l).1 else []
theorem pDrops_len (l : List (S63)) (n : ByteArray) (c : UInt8) (m : Nat) (i : Int) : (pDrops l n c m i).length ≤ l.length := by
  unfold pDrops
  rw [List.length_map]
  exact List.length_filter_le _ _
theorem pShed_len (l : List (S63)) : (pShed l).length ≤ l.length := by
  unfold pShed
  split
  · exact pDrops_len _ _ _ _ _
  · exact Nat.zero_le _
theorem impl_ShedActs_l0 (l : List (S63)) (hl : l.length ≤ 1048576) (hok : ∀ f ∈ l, f.f0.size ≤ 1048576) (idx : Int) (hi0 : 0 ≤ idx) (hi1 : idx ≤ 1000000) (x : Int) (y : List Int) (z : ByteArray) : ∀ (d : Nat) (i : Int) (acc R : List (S67)), 0 ≤ i → i + d = l.length → (acc.length : Int) ≤ i → acc ++ pDrops (l.drop i.toNat) sNew 115 1000000 idx = R →
    Ev (fun k => impl_ShedActs.l0 k acc l (l.length : Int) i idx x y z) R := by
  intro d
  induction d with
  | zero =>
    intro i acc R h0 h ha hR
    apply ev_succ
    have c : ¬ i < (l.length : Int) := by omega
    rw [List.drop_of_length_le (by omega)] at hR
    simp only [pDrops, List.filter_nil, List.map_nil, List.append_nil] at hR
    simp only [impl_ShedActs.l0, c, if_false]
    exact ev_some hR
  | succ d ih =>
    intro i acc R h0 h ha hR
    apply ev_succ
    have c : i < (l.length : Int) := by omega
    have e1 : wrap64 (i + 1) = i + 1 := w64 (by omega) (by omega)
    have ca : acc.length < 2513169434916 := by omega
    have hm := hok _ (file_mem l i h0 c)
    have hd := drop_file l i h0 c
    rw [hd] at hR
    have q0 : 0 ≤ i + 1 := by omega
    have q1 : i + 1 + d = l.length := by omega
    simp only [impl_ShedActs.l0, c, h0, if_true, e1]
    generalize rd_T63 l i = f at hm hR ⊢
    have yes : (isNew sNew f || isOld 115 1000000 idx f) = true → Ev (fun k => impl_ShedActs.l0 k (acc ++ [nDrop f.f0]) l (l.length : Int) (i + 1) idx x y z) R := fun hy => by
      rw [pDrops, List.filter_cons_of_pos (p := fun x : S63 => isNew sNew x || isOld 115 1000000 idx x) hy, List.map_cons] at hR
      refine ih (i + 1) (acc ++ [nDrop f.f0]) R q0 q1 (by rw [List.length_append, List.length_singleton]; omega) ?_
      rw [List.append_assoc]
      exact hR
    have no : (isNew sNew f || isOld 115 1000000 idx f) = false → Ev (fun k => impl_ShedActs.l0 k acc l (l.length : Int) (i + 1) idx x y z) R := fun hy => by
      rw [pDrops, List.filter_cons_of_neg (p := fun x : S63 => isNew sNew x || isOld 115 1000000 idx x) (by show ¬ (isNew sNew f || isOld 115 1000000 idx f) = true; rw [hy]; decide)] at hR
      exact ih (i + 1) acc R q0 q1 (by omega) hR
    by_cases c1 : f.f0.toList = ([115, 43] : List UInt8)
    · simp only [c1, if_true, ca]
      refine yes ?_
      have : isNew sNew f = true := by unfold isNew; rw [sNew_list, c1]; exact beq_self_eq_true _
      rw [this, Bool.true_or]
    · have hn : isNew sNew f = false := by unfold isNew; rw [sNew_list]; exact beq_eq_false_iff_ne.2 c1
      simp only [c1, if_false]
      refine Ev.bind (impl_isSnap_ev f hm) ?_
      by_cases c2 : pNum 115 1000000 f.f0 ≥ 0
      · simp only [decide_eq_true c2, if_true]
        refine Ev.bind (impl_SnapName_ev idx (by omega) (by omega)) ?_
        by_cases c3 : pNum 115 1000000 f.f0 = idx
        · have c4 := (sName_iff c2 hi0 hi1).2 c3
          simp only [c4, if_true]
          exact no (by rw [hn, Bool.false_or]; unfold isOld; exact decide_eq_false (fun h => h.2 c3))
        · have c4 : ¬ f.f0.toList = (pSName idx).toList := fun h => c3 ((sName_iff c2 hi0 hi1).1 h)
          simp only [c4, if_false, ca, if_true]
          exact yes (by rw [hn, Bool.false_or]; unfold isOld; exact decide_eq_true ⟨c2, c3⟩)
      · simp only [decide_eq_false c2, Bool.false_eq_true, if_false]
        exact no (by rw [hn, Bool.false_or]; unfold isOld; exact decide_eq_false (fun h => c2 h.1))
theorem impl_ShedActs_ev (l : List (S63)) (hl : l.length ≤ 1048576) : Ev (fun k => impl_ShedActs.f k l) (pShed l) := by
  simp only [impl_ShedActs.f, Option.bind_some]
  refine Ev.bind (impl_NewestSnap_ev l hl) ?_
  unfold pShed
  by_cases c : (pNewest l).2.2.2.2 = true
  · obtain ⟨hd, h0, h1⟩ := pNewest_idx c
    have hf := (pDiskOk_files hd).2
    simp only [c, if_true]
    exact impl_ShedActs_l0 l hl (fun f hx => by have := hf f hx; omega) _ h0 h1 _ _ _ l.length 0 [] _ (by omega) (by omega) (by simp) (by simp)
  · simp only [c, if_false]
    exact Ev.now _
theorem spec_ShedActs_ev (l : List (S63)) (hl : l.length ≤ 1048576) : Ev (fun k => spec_ShedActs.f k l) (pShed l) := by
  simp only [spec_ShedActs.f]
  refine Ev.bind (spec_NewestSnap_ev l hl) ?_
  unfold pShed
  by_cases c : (pNewest l).2.2.2.2 = true
  · obtain ⟨hd, h0, h1⟩ := pNewest_idx c
    simp only [c, if_true]
    refine Ev.bind (spec_l08New_ev l hl) ?_
    refine Ev.bind (spec_l08Drops_ev l hl _) ?_
    have l1 := pNews_len l sNew
    have l2 := pOlds_len l 115 1000000 (pNewest l).1
    have ca : (pNews l sNew).length + (pOlds l 115 1000000 (pNewest l).1).length < 2513169434916 := by omega
    simp only [ca, if_true]
    rw [pDrops_two (((pDiskL_iff l none).1 (by unfold pDiskOk at hd; rw [Bool.and_eq_true] at hd; exact hd.2)).2.1) sNew_list]
    exact Ev.now _
  · simp only [c, if_false]
    exact Ev.now _

theorem laws_markText_l0 (n : Nat) : ∀ s : ByteArray, s.size + n ≤ 140737488355328 → Ev (fun k => laws_markText.l0 k (n : Int) s) (decF n s) := by
  induction n using Nat.strongRecOn with
  | ind n ih =>
    intro s hs
    apply ev_succ
    by_cases hn : n = 0
    · subst hn
      have c : ¬ ((0 : Nat) : Int) > 0 := by omega
      have c2 : 1 + s.size ≤ 9223372036854775807 := by omega
      simp only [laws_markText.l0, c, c2, if_true, if_false]
      rw [decF_zero]
      exact Ev.now _
    · have c : (n : Int) > 0 := by omega
      have e1 : wrap64 (48 + Int.tmod (n : Int) 10) % 256 = ((48 + n % 10 : Nat) : Int) := by
        rw [Int.tmod_eq_emod_of_nonneg (by omega), w64 (by omega) (by omega)]; omega
      have e2 : wrap64 (Int.tdiv (n : Int) 10) = ((n / 10 : Nat) : Int) := by
        rw [Int.tdiv_eq_ediv_of_nonneg (by omega), w64 (by omega) (by omega)]; omega
      have c2 : (strOfNums [((48 + n % 10 : Nat) : Int)]).size + s.size ≤ 9223372036854775807 := by rw [str_len]; simp; omega
      simp only [laws_markText.l0, c, if_true, e1, e2, Option.bind_some, c2]
      rw [decF_more hn]
      refine ih (n / 10) (by omega) _ ?_
      rw [size_app, str_len]; simp; omega
theorem laws_markText_ev (k : Int) (h : k ≤ 140737488355328) : Ev (fun n => laws_markText.f n k) (markT k) := by
  simp only [laws_markText.f]
  by_cases c : k ≤ 0
  · simp only [c, if_true]
    rw [markT, if_pos c]
    exact Ev.now _
  · simp only [c, if_false]
    rw [markT, if_neg c]
    obtain ⟨n, rfl⟩ := Int.eq_ofNat_of_zero_le (show 0 ≤ k by omega)
    have := laws_markText_l0 n ⟨#[]⟩ (by simp [ByteArray.size]; omega)
    simpa using this

def mkFile (a : Int) : Nat → List (S63)
  | 0 => []
  | n + 1 => ⟨markT (a), markT (a + 1), a + 1 + 1⟩ :: mkFile (a + 1 + 1 + 1) n
theorem mkFile_len (a : Int) (n : Nat) : (mkFile a n).length = n := by
  induction n generalizing a with
  | zero => rfl
  | succ n ih => simp [mkFile, ih]
theorem mkFile_get (a : Int) (n i : Nat) (h : i < n) : (mkFile a n)[i]? = some ⟨markT ((a + 3 * (i : Int))), markT ((a + 3 * (i : Int)) + 1), (a + 3 * (i : Int)) + 1 + 1⟩ := by
  induction n generalizing a i with
  | zero => omega
  | succ n ih =>
    cases i with
    | zero => simp [mkFile]
    | succ i =>
      simp only [mkFile, List.getElem?_cons_succ]
      rw [ih _ _ (by omega)]
      rw [show (a + 1 + 1 + 1) + 3 * (i : Int) = a + 3 * ((i + 1 : Nat) : Int) by omega]
theorem laws_markFileS_ev (l : List (S63)) (a : Int) (ha : 0 ≤ a) (hb : a ≤ 70368744177664) (hl : l.length ≤ 1099511627776) : Ev (fun k => laws_markFileS.f k l a) (a + 3 * l.length, mkFile a l.length) := by
  simp only [laws_markFileS.f]
  have key := loop_up (fun k (s : List (S63) × Int) i => laws_markFileS.l0 k s.1 s.2 i) (l.length : Int) (a + 3 * l.length, mkFile a l.length)
    (fun s i => s.1.length = l.length ∧ s.2 = a + 3 * i ∧ s.1.take i.toNat = (mkFile a l.length).take i.toNat)
    (fun s hs => by
      obtain ⟨b, x⟩ := s
      obtain ⟨hb, rfl, ht⟩ := hs
      simp only at hb ht ⊢
      have c : ¬ (l.length : Int) < (b.length : Int) := by omega
      simp only [laws_markFileS.l0, c, if_false]
      apply ev_some
      rw [List.take_of_length_le (by omega), List.take_of_length_le (by rw [mkFile_len]; omega)] at ht
      rw [ht])
    (fun s i h0 h1 hs ih => by
      obtain ⟨b, x⟩ := s
      obtain ⟨hb, rfl, ht⟩ := hs
      simp only at hb ht ⊢
      have h1' : i < (b.length : Int) := by omega
      have hr : ∀ v, rd_T63 (b.set i.toNat v) i = v := fun v => get_set b i v h0 h1' z63
      have hfin := ih (b.set i.toNat ⟨markT ((a + 3 * i)), markT ((a + 3 * i) + 1), (a + 3 * i) + 1 + 1⟩, (a + 3 * i) + 1 + 1 + 1) ⟨by simp [hb], by simp only; omega, by
        simp only
        rw [show (i + 1).toNat = i.toNat + 1 by omega]
        refine take_set (mkFile a l.length) b i.toNat _ (by rw [mkFile_len]; exact hb) (by rw [mkFile_len]; omega) ht ?_
        rw [mkFile_get _ _ _ (by omega), show ((i.toNat : Nat) : Int) = i by omega]⟩
      have e1 : wrap64 ((a + 3 * i) + 1) = (a + 3 * i) + 1 := w64 (by omega) (by omega)
      have e2 : wrap64 ((a + 3 * i) + 1 + 1) = (a + 3 * i) + 1 + 1 := w64 (by omega) (by omega)
      have e3 : wrap64 ((a + 3 * i) + 1 + 1 + 1) = (a + 3 * i) + 1 + 1 + 1 := w64 (by omega) (by omega)
      have ei : wrap64 (i + 1) = i + 1 := w64 (by omega) (by omega)
      simp only [laws_markFileS.l0, h1', h0, if_true, e1, e2, e3, ei, Option.bind_some, hr, List.set_set]
      refine Ev.bind (laws_markText_ev _ (by omega)) ?_
      try simp only [h1', h0, if_true, Option.bind_some, hr, List.set_set]
      refine Ev.bind (laws_markText_ev _ (by omega)) ?_
      try simp only [h1', h0, if_true, Option.bind_some, hr, List.set_set]
      exact hfin)
  exact key l.length 0 (l, a) (by omega) (by omega) ⟨rfl, by simp, by simp⟩

theorem laws_markDisk_ev (l : List (S63)) (c : Int) (hc : 0 ≤ c) (hc2 : c ≤ 70368744177664) (hl : l.length ≤ 1099511627776) : Ev (fun k => laws_markDisk.f k l c) (c + 3 * l.length, mkFile c l.length) := by
  simp only [laws_markDisk.f]
  exact Ev.bind (laws_markFileS_ev l c hc hc2 hl) (Ev.now _)

def mkAct (a : Int) : Nat → List (S67)
  | 0 => []
  | n + 1 => ⟨a, markT (a + 1), markT (a + 1 + 1), markT (a + 1 + 1 + 1)⟩ :: mkAct (a + 1 + 1 + 1 + 1) n
theorem mkAct_len (a : Int) (n : Nat) : (mkAct a n).length = n := by
  induction n generalizing a with
  | zero => rfl
  | succ n ih => simp [mkAct, ih]
theorem mkAct_get (a : Int) (n i : Nat) (h : i < n) : (mkAct a n)[i]? = some ⟨(a + 4 * (i : Int)), markT ((a + 4 * (i : Int)) + 1), markT ((a + 4 * (i : Int)) + 1 + 1), markT ((a + 4 * (i : Int)) + 1 + 1 + 1)⟩ := by
  induction n generalizing a i with
  | zero => omega
  | succ n ih =>
    cases i with
    | zero => simp [mkAct]
    | succ i =>
      simp only [mkAct, List.getElem?_cons_succ]
      rw [ih _ _ (by omega)]
      rw [show (a + 1 + 1 + 1 + 1) + 4 * (i : Int) = a + 4 * ((i + 1 : Nat) : Int) by omega]
theorem laws_markActS_ev (l : List (S67)) (a : Int) (ha : 0 ≤ a) (hb : a ≤ 70368744177664) (hl : l.length ≤ 1099511627776) : Ev (fun k => laws_markActS.f k l a) (a + 4 * l.length, mkAct a l.length) := by
  simp only [laws_markActS.f]
  have key := loop_up (fun k (s : List (S67) × Int) i => laws_markActS.l0 k s.1 s.2 i) (l.length : Int) (a + 4 * l.length, mkAct a l.length)
    (fun s i => s.1.length = l.length ∧ s.2 = a + 4 * i ∧ s.1.take i.toNat = (mkAct a l.length).take i.toNat)
    (fun s hs => by
      obtain ⟨b, x⟩ := s
      obtain ⟨hb, rfl, ht⟩ := hs
      simp only at hb ht ⊢
      have c : ¬ (l.length : Int) < (b.length : Int) := by omega
      simp only [laws_markActS.l0, c, if_false]
      apply ev_some
      rw [List.take_of_length_le (by omega), List.take_of_length_le (by rw [mkAct_len]; omega)] at ht
      rw [ht])
    (fun s i h0 h1 hs ih => by
      obtain ⟨b, x⟩ := s
      obtain ⟨hb, rfl, ht⟩ := hs
      simp only at hb ht ⊢
      have h1' : i < (b.length : Int) := by omega
      have hr : ∀ v, rd_T67 (b.set i.toNat v) i = v := fun v => get_set b i v h0 h1' z67
      have hfin := ih (b.set i.toNat ⟨(a + 4 * i), markT ((a + 4 * i) + 1), markT ((a + 4 * i) + 1 + 1), markT ((a + 4 * i) + 1 + 1 + 1)⟩, (a + 4 * i) + 1 + 1 + 1 + 1) ⟨by simp [hb], by simp only; omega, by
        simp only
        rw [show (i + 1).toNat = i.toNat + 1 by omega]
        refine take_set (mkAct a l.length) b i.toNat _ (by rw [mkAct_len]; exact hb) (by rw [mkAct_len]; omega) ht ?_
        rw [mkAct_get _ _ _ (by omega), show ((i.toNat : Nat) : Int) = i by omega]⟩
      have e1 : wrap64 ((a + 4 * i) + 1) = (a + 4 * i) + 1 := w64 (by omega) (by omega)
      have e2 : wrap64 ((a + 4 * i) + 1 + 1) = (a + 4 * i) + 1 + 1 := w64 (by omega) (by omega)
      have e3 : wrap64 ((a + 4 * i) + 1 + 1 + 1) = (a + 4 * i) + 1 + 1 + 1 := w64 (by omega) (by omega)
      have e4 : wrap64 ((a + 4 * i) + 1 + 1 + 1 + 1) = (a + 4 * i) + 1 + 1 + 1 + 1 := w64 (by omega) (by omega)
      have ei : wrap64 (i + 1) = i + 1 := w64 (by omega) (by omega)
      simp only [laws_markActS.l0, h1', h0, if_true, e1, e2, e3, e4, ei, Option.bind_some, hr, List.set_set]
      refine Ev.bind (laws_markText_ev _ (by omega)) ?_
      try simp only [h1', h0, if_true, Option.bind_some, hr, List.set_set]
      refine Ev.bind (laws_markText_ev _ (by omega)) ?_
      try simp only [h1', h0, if_true, Option.bind_some, hr, List.set_set]
      refine Ev.bind (laws_markText_ev _ (by omega)) ?_
      try simp only [h1', h0, if_true, Option.bind_some, hr, List.set_set]
      exact hfin)
  exact key l.length 0 (l, a) (by omega) (by omega) ⟨rfl, by simp, by simp⟩
theorem laws_heldActS_ev (a : Int) (n : Nat) (ha : 0 ≤ a) (hb : a ≤ 70368744177664) (hn : n ≤ 1099511627776) : Ev (fun k => laws_heldActS.f k (mkAct a n) a) (a + 4 * n) := by
  simp only [laws_heldActS.f]
  have key := loop_up (fun k (s : Int) i => laws_heldActS.l0 k (mkAct a n) s i) (n : Int) (a + 4 * n) (fun s i => s = a + 4 * i)
    (fun s hs => by
      subst hs
      have c : ¬ (n : Int) < ((mkAct a n).length : Int) := by rw [mkAct_len]; omega
      simp only [laws_heldActS.l0, c, if_false]
      exact Ev.now _)
    (fun s i h0 h1 hs ih => by
      subst hs
      have hfin := ih ((a + 4 * i) + 1 + 1 + 1 + 1) (by omega)
      have c : i < ((mkAct a n).length : Int) := by rw [mkAct_len]; omega
      have he : rd_T67 (mkAct a n) i = ⟨(a + 4 * i), markT ((a + 4 * i) + 1), markT ((a + 4 * i) + 1 + 1), markT ((a + 4 * i) + 1 + 1 + 1)⟩ := by
        have hg := mkAct_get a n i.toNat (by omega)
        rw [show ((i.toNat : Nat) : Int) = i by omega] at hg
        unfold rd_T67
        rw [List.getD_eq_getElem?_getD, hg]
        rfl
      have e1 : wrap64 ((a + 4 * i) + 1) = (a + 4 * i) + 1 := w64 (by omega) (by omega)
      have e2 : wrap64 ((a + 4 * i) + 1 + 1) = (a + 4 * i) + 1 + 1 := w64 (by omega) (by omega)
      have e3 : wrap64 ((a + 4 * i) + 1 + 1 + 1) = (a + 4 * i) + 1 + 1 + 1 := w64 (by omega) (by omega)
      have e4 : wrap64 ((a + 4 * i) + 1 + 1 + 1 + 1) = (a + 4 * i) + 1 + 1 + 1 + 1 := w64 (by omega) (by omega)
      have ei : wrap64 (i + 1) = i + 1 := w64 (by omega) (by omega)
      simp only [laws_heldActS.l0, c, h0, if_true, e1, e2, e3, e4, ei, he]
      refine Ev.bind (laws_markText_ev _ (by omega)) ?_
      simp only [if_true]
      refine Ev.bind (laws_markText_ev _ (by omega)) ?_
      simp only [if_true]
      refine Ev.bind (laws_markText_ev _ (by omega)) ?_
      simp only [if_true]
      exact hfin)
  exact key n 0 a (by omega) (by omega) (by omega)

theorem laws_eqAct_ev (a0 : Int) (a1 : ByteArray) (a2 : ByteArray) (a3 : ByteArray) : Ev (fun _ => laws_eqAct.f a0 a1 a2 a3 a0 a1 a2 a3) true := by
  apply ev_const
  simp [laws_eqAct.f]
theorem laws_eqActS_ev (l : List (S67)) (hl : l.length ≤ 140737488355328) : Ev (fun k => laws_eqActS.f k l l) true := by
  simp only [laws_eqActS.f, if_true]
  have key := loop_up (fun k (_ : Unit) i => laws_eqActS.l0 k l l i) (l.length : Int) true (fun _ _ => True)
    (fun _ _ => by
      have c : ¬ (l.length : Int) < (l.length : Int) := by omega
      simp only [laws_eqActS.l0, c, if_false]
      exact Ev.now _)
    (fun _ i h0 h1 _ ih => by
      have e2 : wrap64 (i + 1) = i + 1 := w64 (by omega) (by omega)
      simp only [laws_eqActS.l0, h1, h0, if_true, e2]
      refine Ev.bind (laws_eqAct_ev _ _ _ _) ?_
      simp only [if_true]
      exact ih () trivial)
  exact key l.length 0 () (by omega) (by omega) trivial

theorem FnExactShedActs : OpenFnExactShedActs.Stmt := by
  intro l hl
  apply ev_rounds
  simp only [laws_FnExactShedActs.f]
  obtain ⟨r, hr, hrr⟩ := laws_szDisk_ev l 1048576 (by decide) (by decide) hl.1 (fun x hx => ⟨(hl.2 x hx).1, (hl.2 x hx).2.1⟩)
  refine Ev.bind hr ?_
  rcases hrr with hneg | ⟨hneg, hle, hll, hg⟩
  · simp only [hneg, if_true]
    exact Ev.now _
  have hn' : ¬ r < 0 := by omega
  simp only [hn', if_false]
  have hlen : l.length ≤ 1048576 := by omega
  have hlen' : (l.map cvFile).length ≤ 1048576 := by simpa using hlen
  have htl := laws_toDisk_ev l hlen
  have hS := spec_ShedActs_ev (l.map cvFile) hlen'
  have hI := impl_ShedActs_ev (l.map cvFile) hlen'
  have hpl := pShed_len (l.map cvFile)
  obtain ⟨p, e⟩ : ∃ p, pShed (l.map cvFile) = p := ⟨_, rfl⟩
  rw [e] at hI hS hpl
  have hq := laws_eqActS_ev p (by omega)
  have hq0 := laws_eqDisk_ev (l.map cvFile) (by omega)
  have hm0 := laws_markDisk_ev (l.map cvFile) 1 (by decide) (by decide) (by omega)
  have hm := laws_markActS_ev p 1 (by decide) (by decide) (by omega)
  have hh := laws_heldActS_ev 1 p.length (by decide) (by decide) (by omega)
  have h1 : ¬ (1 + 3 * ((l.map cvFile).length : Int)) < 0 := by omega
  have h2 : ¬ (1 : Int) + 4 * (p.length : Int) < 0 := by omega
  refine Ev.bind htl ?_
  refine Ev.bind hS ?_
  refine Ev.bind htl ?_
  refine Ev.bind hI ?_
  refine Ev.bind hq ?_
  simp only [if_true]
  refine Ev.bind htl ?_
  refine Ev.bind hq0 ?_
  simp only [if_true]
  refine Ev.bind hm0 ?_
  simp only [h1, if_false]
  refine Ev.bind hq ?_
  apply ev_succ
  simp only [laws_FnExactShedActs.j0, Bool.not_true, Bool.false_eq_true, if_false]
  refine Ev.bind hm ?_
  refine Ev.bind hh ?_
  simp only [h2, if_false, if_true]
  refine Ev.bind htl ?_
  refine Ev.bind hI ?_
  refine Ev.bind hq ?_
  simp only [if_true]
  refine Ev.bind hh ?_
  simp only [h2, if_false, if_true]
  exact Ev.now _

end Go.Proofs.YtogifkjkbfdocaaGreatDoor.Pure
