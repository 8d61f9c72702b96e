/- Plain words on a text that is read from a place on, and on entries in bytes: no program in sight. -/
import Derived.Test.YtogifkjkbfdocaaGreatDoorBaseF
namespace Go.Proofs.YtogifkjkbfdocaaGreatDoor.Base
open Go.RowKit Go.Proofs.YtogifkjkbfdocaaGreatDoorW.PrintWords Go.Proofs.YtogifkjkbfdocaaGreatDoorW.PrintMore

theorem readVar_text {s : ByteArray} {at_ : Int} (h : (pReadVar s at_).2.2 = true) : varB (pReadVar s at_).1.toNat = s.extract at_.toNat (pReadVar s at_).2.1.toNat := by
  have hb := pReadVar_ok s at_ h
  have hin : 0 ≤ at_ ∧ at_ ≤ (s.size : Int) := by omega
  obtain ⟨p, hp, he⟩ : ∃ p, rvL ((bytesOf s).drop at_.toNat) = some p ∧ pReadVar s at_ = (p.1, at_ + p.2, true) := by
    rw [pReadVar_in hin] at h ⊢
    cases ho : rvF 5 1 0 true ((bytesOf s).drop at_.toNat) with
    | none => rw [ho] at h; cases h
    | some p => exact ⟨p, ho, rfl⟩
  have hc := rvL_canon ((isB_bytes s).drop _) hp
  rw [he]
  apply bytes_inj
  rw [varB, bytes_str (varN_isB _)]
  show varN p.1.toNat = _
  rw [hc, bytes_ext]
  congr 1
  show p.2 = (at_ + (p.2 : Int)).toNat - at_.toNat
  omega
/-- A cursor: the place, and whether something did not stand there. -/
def curOk (s : ByteArray) (a : Int) : Prop := 0 ≤ a ∧ a ≤ (s.size : Int)
def curVar (s : ByteArray) (a : Int) (b : Bool) : Int × Int × Bool := if b = true then (0, a, true) else if (pReadVar s a).2.2 = true then ((pReadVar s a).1, (pReadVar s a).2.1, false) else (0, a, true)
def curOne (s : ByteArray) (a : Int) (b : Bool) : Int × Int × Bool := if b = true then (0, a, true) else if a ≥ (s.size : Int) then (0, a, true) else (bt s a, a + 1, false)
def curTake (s : ByteArray) (a : Int) (b : Bool) (n : Int) : ByteArray × Int × Bool := if b = true then (⟨#[]⟩, a, true) else if n > (s.size : Int) - a then (⟨#[]⟩, a, true) else (s.extract a.toNat (a + n).toNat, a + n, false)
theorem curVar_ok {s : ByteArray} {a : Int} {b : Bool} (h : curOk s a) : curOk s (curVar s a b).2.1 := by
  unfold curVar
  split
  · exact h
  · split
    · rename_i h2
      have := pReadVar_ok s a h2
      unfold curOk at h ⊢
      simp only
      omega
    · exact h
theorem curOne_ok {s : ByteArray} {a : Int} {b : Bool} (h : curOk s a) : curOk s (curOne s a b).2.1 := by
  unfold curOne curOk at *
  split
  · exact h
  · split
    · exact h
    · simp only; omega
theorem curTake_ok {s : ByteArray} {a : Int} {b : Bool} {n : Int} (h : curOk s a) (hn : 0 ≤ n) : curOk s (curTake s a b n).2.1 := by
  unfold curTake curOk at *
  split
  · exact h
  · split
    · exact h
    · simp only; omega
theorem curVar_bad (s : ByteArray) (a : Int) : curVar s a true = (0, a, true) := rfl
theorem curOne_bad (s : ByteArray) (a : Int) : curOne s a true = (0, a, true) := rfl
theorem curTake_bad (s : ByteArray) (a n : Int) : curTake s a true n = (⟨#[]⟩, a, true) := rfl
theorem curVar_cases (s : ByteArray) (a : Int) : curVar s a false = (0, a, true) ∨ ((pReadVar s a).2.2 = true ∧ curVar s a false = ((pReadVar s a).1, (pReadVar s a).2.1, false)) := by
  unfold curVar
  by_cases h : (pReadVar s a).2.2 = true
  · right; exact ⟨h, by rw [if_neg (by decide), if_pos h]⟩
  · left; rw [if_neg (by decide), if_neg h]
theorem curOne_cases (s : ByteArray) (a : Int) : (a ≥ (s.size : Int) ∧ curOne s a false = (0, a, true)) ∨ (a < (s.size : Int) ∧ curOne s a false = (bt s a, a + 1, false)) := by
  unfold curOne
  by_cases h : a ≥ (s.size : Int)
  · left; exact ⟨h, by rw [if_neg (by decide), if_pos h]⟩
  · right; exact ⟨by omega, by rw [if_neg (by decide), if_neg h]⟩
theorem curTake1_cases (s : ByteArray) (a : Int) : (a ≥ (s.size : Int) ∧ curTake s a false 1 = (⟨#[]⟩, a, true)) ∨ (a < (s.size : Int) ∧ curTake s a false 1 = (s.extract a.toNat (a + 1).toNat, a + 1, false)) := by
  unfold curTake
  by_cases h : a ≥ (s.size : Int)
  · left; exact ⟨h, by rw [if_neg (by decide), if_pos (by omega)]⟩
  · right; exact ⟨by omega, by rw [if_neg (by decide), if_neg (by omega)]⟩
theorem ext_one (s : ByteArray) (a : Int) (h0 : 0 ≤ a) (h : a < (s.size : Int)) : s.extract a.toNat (a + 1).toNat = strOfNums [bt s a] := by
  apply bytes_inj
  rw [bytes_ext, bytes_str (by intro x hx; rw [List.mem_singleton] at hx; subst hx; have := bt_range s a; omega), drop_bt s a h0 h, show (a + 1).toNat - a.toNat = 1 by omega]
  rfl
theorem bt_ext (s : ByteArray) (a : Int) (h0 : 0 ≤ a) (h : a < (s.size : Int)) : bt (s.extract a.toNat (a + 1).toNat) 0 = bt s a := by
  rw [bt_rd, bytes_ext, drop_bt s a h0 h, show (a + 1).toNat - a.toNat = 1 by omega]
  rfl
/-- What ReadEntry answers. -/
def entP (s : ByteArray) : Int × Int × Int × ByteArray × Bool :=
  let p1 := curOne s 0 false; let p2 := curVar s p1.2.1 p1.2.2; let p3 := curVar s p2.2.1 p2.2.2; let p4 := curOne s p3.2.1 p3.2.2
  if p4.2.2 = true then (0, 0, 0, ⟨#[]⟩, false) else if p1.1 = 69 ∧ pEntryOk p3.1 p4.1 (s.extract p4.2.1.toNat s.size) = true ∧ 1 ≤ p2.1 ∧ p2.1 ≤ 1000000 then (p2.1, p3.1, p4.1, s.extract p4.2.1.toNat s.size, true) else (0, 0, 0, ⟨#[]⟩, false)
/-- The text is the text of the entry that is read, just where it begins with E. -/
theorem entB_iff {s : ByteArray} {n1 n2 : Int} {x t : Int} (h0 : 0 < (s.size : Int)) (hx : (pReadVar s 1).2.2 = true) (ex : pReadVar s 1 = (x, n1, true)) (ht : (pReadVar s n1).2.2 = true) (et : pReadVar s n1 = (t, n2, true)) (hk : n2 < (s.size : Int)) :
    entB x t (bt s n2) (s.extract (n2 + 1).toNat s.size) = s ↔ bt s 0 = 69 := by
  have b1 := pReadVar_ok s 1 hx
  have b2 := pReadVar_ok s n1 ht
  have v1 := readVar_text hx
  have v2 := readVar_text ht
  rw [ex] at b1 v1
  rw [et] at b2 v2
  simp only at b1 b2 v1 v2
  have hr := bt_range s n2
  have hk2 : bt s n2 % 256 = bt s n2 := by omega
  have c1 := ext_one s 0 (by omega) h0
  have c2 := ext_one s n2 (by omega) hk
  have split : s = (((strOfNums [bt s 0] ++ varB x.toNat) ++ varB t.toNat) ++ strOfNums [bt s n2]) ++ s.extract (n2 + 1).toNat s.size := by
    rw [v1, v2, ← c1, ← c2, show (0 : Int).toNat = 0 from rfl, show ((0 : Int) + 1).toNat = 1 from rfl, show (1 : Int).toNat = 1 from rfl, ext_ext _ _ _ _ (by omega) (by omega), ext_ext _ _ _ _ (by omega) (by omega), ext_ext _ _ _ _ (by omega) (by omega), ext_ext _ _ _ _ (by omega) (by omega)]
    apply bytes_inj
    rw [bytes_ext, List.drop_zero, Nat.sub_zero, ← bytes_len s, List.take_length]
  have e69 : (⟨#[69]⟩ : ByteArray) = strOfNums [69] := rfl
  unfold entB
  rw [hk2, e69]
  constructor
  · intro h
    have h2 := h.trans split
    have h3 := (app_inj h2 (by rw [size_app, size_app, size_app, size_app, size_app, size_app, str_len, str_len, str_len]; rfl)).1
    have h4 := (app_inj h3 (by rw [size_app, size_app, size_app, size_app, str_len, str_len]; rfl)).1
    have h5 := (app_inj h4 (by rw [size_app, size_app, str_len, str_len]; rfl)).1
    have h6 := (app_inj h5 (by rw [str_len, str_len]; rfl)).1
    have hr0 := bt_range s 0
    have h7 := str_inj (a := [69]) (b := [bt s 0]) (by intro z hz; simp at hz; omega) (by intro z hz; rw [List.mem_singleton] at hz; omega) h6
    simp at h7
    omega
  · intro h
    rw [h] at split
    exact split.symm
end Go.Proofs.YtogifkjkbfdocaaGreatDoor.Base
