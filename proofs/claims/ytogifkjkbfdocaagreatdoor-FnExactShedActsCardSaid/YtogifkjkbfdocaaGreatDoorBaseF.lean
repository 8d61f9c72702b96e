/- Plain words on frames: no program in sight. -/
import Derived.Test.YtogifkjkbfdocaaGreatDoorBaseV
import Derived.Test.YtogifkjkbfdocaaGreatDoorBaseL
namespace Go.Proofs.YtogifkjkbfdocaaGreatDoor.Base
open Go.RowKit Go.Proofs.YtogifkjkbfdocaaGreatDoorW.PrintWords Go.Proofs.YtogifkjkbfdocaaGreatDoorW.PrintMore

theorem app_assoc (a b c : ByteArray) : (a ++ b) ++ c = a ++ (b ++ c) := by
  apply bytes_inj
  rw [bytes_app, bytes_app, bytes_app, bytes_app, List.append_assoc]
theorem nil_app (a : ByteArray) : (⟨#[]⟩ : ByteArray) ++ a = a := by
  apply bytes_inj
  rw [bytes_app]
  rfl
theorem app_nil (a : ByteArray) : a ++ (⟨#[]⟩ : ByteArray) = a := by
  apply bytes_inj
  rw [bytes_app]
  simp [bytesOf]
theorem ext_ext (s : ByteArray) (i j k : Nat) (h1 : i ≤ j) (h2 : j ≤ k) : s.extract i j ++ s.extract j k = s.extract i k := by
  apply bytes_inj
  rw [bytes_app, bytes_ext, bytes_ext, bytes_ext]
  have e : (bytesOf s).drop j = ((bytesOf s).drop i).drop (j - i) := by rw [List.drop_drop]; congr 1; omega
  rw [e, ← List.take_add]
  congr 1
  omega
/-- Numbers, one behind the other. -/
def varsB (l : List Int) : ByteArray := l.foldl (fun s x => s ++ (pVarText x).1) ⟨#[]⟩
theorem pVarText_size (x : Int) : (pVarText x).1.size ≤ 5 := by
  by_cases h : 0 ≤ x ∧ x ≤ 1000000000
  · rw [pVarText_yes h]; exact varB_size5 (by omega)
  · rw [pVarText_no h]; exact Nat.zero_le _
theorem varsB_snoc (l : List Int) (x : Int) : varsB (l ++ [x]) = varsB l ++ (pVarText x).1 := by
  unfold varsB
  rw [List.foldl_append]
  rfl
theorem varsF_size (l : List Int) : ∀ s : ByteArray, (l.foldl (fun s x => s ++ (pVarText x).1) s).size ≤ s.size + 5 * l.length := by
  induction l with
  | nil => intro s; exact Nat.le_refl _
  | cons x l ih =>
    intro s
    have h1 := ih (s ++ (pVarText x).1)
    have h2 := pVarText_size x
    rw [size_app] at h1
    simp only [List.foldl_cons, List.length_cons]
    omega
theorem varsB_size (l : List Int) : (varsB l).size ≤ 5 * l.length := by
  have := varsF_size l ⟨#[]⟩
  have h0 : (⟨#[]⟩ : ByteArray).size = 0 := rfl
  unfold varsB
  omega

/-- The record that begins at a place, and the place behind it. -/
def uOk (s : ByteArray) (at_ : Int) : Prop :=
  (pReadVar s at_).2.2 = true ∧ (1 ≤ (pReadVar s at_).1 ∧ (pReadVar s at_).1 ≤ 9000) ∧ (pReadVar s at_).1 + 4 ≤ s.size - (pReadVar s at_).2.1 ∧
    strOfNums (four (sumN (s.extract ((pReadVar s at_).2.1 + 4).toNat ((pReadVar s at_).2.1 + 4 + (pReadVar s at_).1).toNat))) = s.extract (pReadVar s at_).2.1.toNat ((pReadVar s at_).2.1 + 4).toNat
instance (s : ByteArray) (at_ : Int) : Decidable (uOk s at_) := by unfold uOk; infer_instance
def uRec (s : ByteArray) (at_ : Int) : ByteArray := s.extract ((pReadVar s at_).2.1 + 4).toNat ((pReadVar s at_).2.1 + 4 + (pReadVar s at_).1).toNat
def uNext (s : ByteArray) (at_ : Int) : Int := (pReadVar s at_).2.1 + 4 + (pReadVar s at_).1
def pUnfr (s : ByteArray) : Nat → List ByteArray → Int → List ByteArray × Int
  | 0, acc, at_ => (acc, at_)
  | f + 1, acc, at_ => if uOk s at_ then pUnfr s f (acc ++ [uRec s at_]) (uNext s at_) else (acc, at_)
def pUnframe (s : ByteArray) : List ByteArray × Int := if s.size ≤ 20000 then pUnfr s (s.size + 1) [] 0 else ([], 0)
theorem pUnfr_yes {s : ByteArray} {f : Nat} {acc : List ByteArray} {at_ : Int} (h : uOk s at_) : pUnfr s (f + 1) acc at_ = pUnfr s f (acc ++ [uRec s at_]) (uNext s at_) := by rw [pUnfr, if_pos h]
theorem pUnfr_no {s : ByteArray} {f : Nat} {acc : List ByteArray} {at_ : Int} (h : ¬ uOk s at_) : pUnfr s (f + 1) acc at_ = (acc, at_) := by rw [pUnfr, if_neg h]
theorem uOk_next {s : ByteArray} {at_ : Int} (h : uOk s at_) : at_ + 6 ≤ uNext s at_ ∧ uNext s at_ ≤ s.size := by
  obtain ⟨h1, h2, h3, _⟩ := h
  have := pReadVar_ok s at_ h1
  unfold uNext
  omega
theorem pUnfr_len (s : ByteArray) : ∀ (f : Nat) (acc : List ByteArray) (at_ : Int), (pUnfr s f acc at_).1.length ≤ acc.length + f := by
  intro f
  induction f with
  | zero => intro acc at_; exact Nat.le_refl _
  | succ f ih =>
    intro acc at_
    by_cases h : uOk s at_
    · rw [pUnfr_yes h]
      have := ih (acc ++ [uRec s at_]) (uNext s at_)
      rw [List.length_append, List.length_singleton] at this
      omega
    · rw [pUnfr_no h]
      show acc.length ≤ _
      omega
/-- What the reference asks of the frame's whole text, and what is asked of its parts: one thing. -/
theorem frame_iff (s : ByteArray) (at_ : Int) (hok : (pReadVar s at_).2.2 = true) (h1 : 1 ≤ (pReadVar s at_).1 ∧ (pReadVar s at_).1 ≤ 9000) (h2 : (pReadVar s at_).1 + 4 ≤ s.size - (pReadVar s at_).2.1) :
    frameB (uRec s at_) = s.extract at_.toNat (uNext s at_).toNat ↔ strOfNums (four (sumN (uRec s at_))) = s.extract (pReadVar s at_).2.1.toNat ((pReadVar s at_).2.1 + 4).toNat := by
  have hb := pReadVar_ok s at_ hok
  have hin : 0 ≤ at_ ∧ at_ ≤ (s.size : Int) := by omega
  have hr : ∃ p, rvL ((bytesOf s).drop at_.toNat) = some p ∧ pReadVar s at_ = (p.1, at_ + p.2, true) := by
    rw [pReadVar_in hin] at hok ⊢
    cases ho : rvF 5 1 0 true ((bytesOf s).drop at_.toNat) with
    | none => rw [ho] at hok; cases hok
    | some p => exact ⟨p, ho, rfl⟩
  obtain ⟨p, hp, he⟩ := hr
  have hc := rvL_canon ((isB_bytes s).drop _) hp
  unfold uRec uNext
  rw [he] at h1 h2 hb ⊢
  simp only at h1 h2 hb ⊢
  have hrs : (s.extract (at_ + p.2 + 4).toNat (at_ + p.2 + 4 + p.1).toNat).size = p.1.toNat := by rw [size_ext]; omega
  have hv : varB p.1.toNat = s.extract at_.toNat (at_ + p.2).toNat := by
    apply bytes_inj
    rw [varB, bytes_str (varN_isB _), hc, bytes_ext]
    congr 1
    omega
  have hsplit : s.extract at_.toNat (at_ + p.2 + 4 + p.1).toNat = (s.extract at_.toNat (at_ + p.2).toNat ++ s.extract (at_ + p.2).toNat (at_ + p.2 + 4).toNat) ++ s.extract (at_ + p.2 + 4).toNat (at_ + p.2 + 4 + p.1).toNat := by
    rw [ext_ext _ _ _ _ (by omega) (by omega), ext_ext _ _ _ _ (by omega) (by omega)]
  unfold frameB
  rw [hrs, hv, hsplit]
  constructor
  · intro h
    have h3 := (app_inj h (by rw [size_app, size_app, str_len, size_ext, size_ext]; simp [four]; omega)).1
    exact (app_inj h3 rfl).2
  · intro h
    rw [h]

/-! Entries in bytes -/
def entB (idx t kd : Int) (s : ByteArray) : ByteArray := ((((⟨#[69]⟩ : ByteArray) ++ varB idx.toNat) ++ varB t.toNat) ++ strOfNums [kd % 256]) ++ s
def pEntryText (idx t kd : Int) (s : ByteArray) : ByteArray × Bool := if pEntryOk t kd s = true ∧ 1 ≤ idx ∧ idx ≤ 1000000 then (entB idx t kd s, true) else (⟨#[]⟩, false)
theorem pEntryText_yes {idx t kd : Int} {s : ByteArray} (h : pEntryOk t kd s = true ∧ 1 ≤ idx ∧ idx ≤ 1000000) : pEntryText idx t kd s = (entB idx t kd s, true) := by rw [pEntryText, if_pos h]
theorem pEntryText_no {idx t kd : Int} {s : ByteArray} (h : ¬ (pEntryOk t kd s = true ∧ 1 ≤ idx ∧ idx ≤ 1000000)) : pEntryText idx t kd s = (⟨#[]⟩, false) := by rw [pEntryText, if_neg h]
theorem pEntryOk_term {t kd : Int} {s : ByteArray} (h : pEntryOk t kd s = true) : 0 ≤ t ∧ t ≤ 100000 := by
  simp only [pEntryOk, Bool.and_eq_true, decide_eq_true_eq] at h
  exact h.1
theorem varsB_two (a b : Int) (ha : 0 ≤ a ∧ a ≤ 1000000000) (hb : 0 ≤ b ∧ b ≤ 1000000000) : varsB [a, b] = varB a.toNat ++ varB b.toNat := by
  have h : varsB [a, b] = ((⟨#[]⟩ : ByteArray) ++ (pVarText a).1) ++ (pVarText b).1 := rfl
  rw [h, pVarText_yes ha, pVarText_yes hb, nil_app]
theorem confB_one (a : Int) : confB [a] = strOfNums [a % 256] := rfl
theorem one_size (x : Int) : (strOfNums [x]).size = 1 := by rw [str_len]; rfl

/-! Snapshots in bytes -/
def snapIn (idx t : Int) (c body : ByteArray) : ByteArray := ((varB idx.toNat ++ varB t.toNat) ++ (varB c.size ++ c)) ++ (varB body.size ++ body)
def snapOk (idx t : Int) (conf : List Int) (body : ByteArray) : Prop :=
  pConfOk conf = true ∧ (0 ≤ idx ∧ idx ≤ 1000000) ∧ (0 ≤ t ∧ t ≤ 100000) ∧ body.size ≤ 20000 ∧ (snapIn idx t (confB conf) body).size + 4 ≤ 20000
instance (idx t : Int) (conf : List Int) (body : ByteArray) : Decidable (snapOk idx t conf body) := by unfold snapOk; infer_instance
def pSnapText (idx t : Int) (conf : List Int) (body : ByteArray) : ByteArray × Bool := if snapOk idx t conf body then (sealB (snapIn idx t (confB conf) body), true) else (⟨#[]⟩, false)
theorem pSnapText_yes {idx t : Int} {conf : List Int} {body : ByteArray} (h : snapOk idx t conf body) : pSnapText idx t conf body = (sealB (snapIn idx t (confB conf) body), true) := by rw [pSnapText, if_pos h]
theorem pSnapText_no {idx t : Int} {conf : List Int} {body : ByteArray} (h : ¬ snapOk idx t conf body) : pSnapText idx t conf body = (⟨#[]⟩, false) := by rw [pSnapText, if_neg h]
theorem confB_size (l : List Int) : (confB l).size = l.length := by rw [confB, str_len, List.length_map]
theorem snapIn_size (idx t : Int) (c body : ByteArray) : (snapIn idx t c body).size = (varB idx.toNat).size + (varB t.toNat).size + ((varB c.size).size + c.size) + ((varB body.size).size + body.size) := by
  rw [snapIn, size_app, size_app, size_app, size_app, size_app]

end Go.Proofs.YtogifkjkbfdocaaGreatDoor.Base
