/- Plain words on lists, marks, confs and entries: no program in sight. -/
import Derived.Test.YtklbkkoojkmjbaaBase
namespace Go.Proofs.Ytklbkkoojkmjbaa.Base
open Go.RowKit Go.Proofs.YtklbkkoojkmjbaaW.PrintWords Go.Proofs.YtklbkkoojkmjbaaW.PrintMore

/-- A loop that counts up to n, with a state. -/
theorem loop_up {σ α : Type} (g : Nat → σ → Int → Option α) (n : Int) (r : α) (inv : σ → Int → Prop)
    (stop : ∀ s, inv s n → Ev (fun k => g (k + 1) s n) r)
    (step : ∀ s i, 0 ≤ i → i < n → inv s i → (∀ s', inv s' (i + 1) → Ev (fun k => g k s' (i + 1)) r) → Ev (fun k => g (k + 1) s i) r) :
    ∀ (d : Nat) (i : Int) (s : σ), 0 ≤ i → i + d = n → inv s i → Ev (fun k => g k s i) r := by
  intro d
  induction d with
  | zero =>
    intro i s h0 h hi
    obtain rfl : i = n := by omega
    exact ev_succ (stop s hi)
  | succ d ih =>
    intro i s h0 h hi
    refine ev_succ (step s i h0 (by omega) hi (fun s' hs' => ih (i + 1) s' (by omega) (by omega) hs'))

def iota (a : Int) : Nat → List Int
  | 0 => []
  | n + 1 => a :: iota (a + 1) n
theorem iota_len (a : Int) (n : Nat) : (iota a n).length = n := by
  induction n generalizing a with
  | zero => rfl
  | succ n ih => simp [iota, ih]
theorem iota_get (a : Int) (n i : Nat) (h : i < n) : (iota a n)[i]? = some (a + i) := by
  induction n generalizing a i with
  | zero => omega
  | succ n ih =>
    cases i with
    | zero => simp [iota]
    | succ i => simp only [iota, List.getElem?_cons_succ]; rw [ih _ _ (by omega)]; congr 1; omega

theorem drop_get {α : Type} (l : List α) (i : Int) (h0 : 0 ≤ i) (h1 : i < l.length) (z : α) : l.drop i.toNat = l.getD i.toNat z :: l.drop (i + 1).toNat := by
  have hl : i.toNat < l.length := by omega
  rw [List.drop_eq_getElem_cons hl, List.getD_eq_getElem?_getD, List.getElem?_eq_getElem hl, show (i + 1).toNat = i.toNat + 1 by omega]
  rfl
theorem getElem_rd {α : Type} (l : List α) (i : Int) (h0 : 0 ≤ i) (h1 : i < l.length) (z : α) : l[i.toNat]? = some (l.getD i.toNat z) := by
  have hl : i.toNat < l.length := by omega
  rw [List.getD_eq_getElem?_getD, List.getElem?_eq_getElem hl]
  rfl
theorem get_set {α : Type} (l : List α) (i : Int) (v : α) (h0 : 0 ≤ i) (h1 : i < l.length) (z : α) : (l.set i.toNat v).getD i.toNat z = v := by
  rw [List.getD_eq_getElem?_getD, List.getElem?_set_self (by omega)]
  rfl
theorem ev_if {α : Type} {c : Prop} [Decidable c] (h : c) {a b : Nat → Option α} {r : α} : Ev (fun k => if c then a k else b k) r = Ev a r := by simp only [h, if_true]

/-! Confs -/
def confB (l : List Int) : ByteArray := strOfNums (l.map fun x => x % 256)
def pConfText (l : List Int) : ByteArray × Bool := if pConfOk l = true then (confB l, true) else (⟨#[]⟩, false)
def pReadConf (s : ByteArray) : List Int × Bool := if pConfOk (bytesOf s) = true then (bytesOf s, true) else ([], false)
theorem pReadConf_yes {s : ByteArray} (h : pConfOk (bytesOf s) = true) : pReadConf s = (bytesOf s, true) := by rw [pReadConf, if_pos h]
theorem pReadConf_no {s : ByteArray} (h : ¬ pConfOk (bytesOf s) = true) : pReadConf s = ([], false) := by rw [pReadConf, if_neg h]
theorem pConfText_yes {l : List Int} (h : pConfOk l = true) : pConfText l = (confB l, true) := by rw [pConfText, if_pos h]
theorem pConfText_no {l : List Int} (h : ¬ pConfOk l = true) : pConfText l = (⟨#[]⟩, false) := by rw [pConfText, if_neg h]
theorem take_snoc_rd (l : List Int) (i : Int) (h0 : 0 ≤ i) (h1 : i < l.length) : l.take (i + 1).toNat = l.take i.toNat ++ [rd l i] := by
  have hl : i.toNat < l.length := by omega
  rw [show (i + 1).toNat = i.toNat + 1 by omega, List.take_add_one, List.getElem?_eq_getElem hl, rd, List.getD_eq_getElem?_getD, List.getElem?_eq_getElem hl]
  rfl
theorem map_take_snoc (f : Int → Int) (l : List Int) (i : Int) (h0 : 0 ≤ i) (h1 : i < l.length) : (l.take (i + 1).toNat).map f = (l.take i.toNat).map f ++ [f (rd l i)] := by
  rw [take_snoc_rd l i h0 h1, List.map_append]; rfl
def cntIn (list : List Int) (conf : List Int) : Nat := (conf.filter fun x => decide (x ∈ list)).length
theorem cntIn_le (list conf : List Int) : cntIn list conf ≤ conf.length := List.length_filter_le _ _
theorem cntIn_snoc (list conf : List Int) (i : Int) (h0 : 0 ≤ i) (h1 : i < conf.length) : cntIn list (conf.take (i + 1).toNat) = cntIn list (conf.take i.toNat) + if rd conf i ∈ list then 1 else 0 := by
  rw [take_snoc_rd conf i h0 h1, cntIn, cntIn, List.filter_append, List.length_append]
  by_cases h : rd conf i ∈ list <;> simp [h]
def pMost (conf list : List Int) : Bool := pConfOk conf && decide (2 * (cntIn list conf : Int) > conf.length)

/-! Entries -/
def pEntryOk (term kind : Int) (data : ByteArray) : Bool :=
  decide (0 ≤ term ∧ term ≤ 100000) && (if kind = 1 then (data.toList == ([] : List UInt8)) else if kind = 2 then pConfOk (bytesOf data) else if kind = 3 then decide ((data.size : Int) ≤ 120) else false)

/-! Frames -/
def frameB (s : ByteArray) : ByteArray := (varB s.size ++ strOfNums (four (sumN s))) ++ s
def pFrame (s : ByteArray) : ByteArray × Bool := if 1 ≤ s.size ∧ s.size ≤ 9000 then (frameB s, true) else (⟨#[]⟩, false)
theorem pFrame_yes {s : ByteArray} (h : 1 ≤ s.size ∧ s.size ≤ 9000) : pFrame s = (frameB s, true) := by rw [pFrame, if_pos h]
theorem pFrame_no {s : ByteArray} (h : ¬ (1 ≤ s.size ∧ s.size ≤ 9000)) : pFrame s = (⟨#[]⟩, false) := by rw [pFrame, if_neg h]

/-! Marks -/
def decF : Nat → ByteArray → ByteArray
  | n, s => if n = 0 then (⟨#[109]⟩ : ByteArray) ++ s else decF (n / 10) (strOfNums [((48 + n % 10 : Nat) : Int)] ++ s)
termination_by n => n
decreasing_by omega
theorem decF_zero (s : ByteArray) : decF 0 s = (⟨#[109]⟩ : ByteArray) ++ s := by rw [decF, if_pos rfl]
theorem decF_more {n : Nat} (h : n ≠ 0) (s : ByteArray) : decF n s = decF (n / 10) (strOfNums [((48 + n % 10 : Nat) : Int)] ++ s) := by rw [decF, if_neg h]
def markT (k : Int) : ByteArray := if k ≤ 0 then (⟨#[109, 48]⟩ : ByteArray) else decF k.toNat ⟨#[]⟩

end Go.Proofs.Ytklbkkoojkmjbaa.Base
