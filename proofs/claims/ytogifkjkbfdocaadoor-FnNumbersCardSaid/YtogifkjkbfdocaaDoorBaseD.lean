/- Plain words for what is drawn, and on frames one behind the other: no program in sight. -/
import Derived.Test.YtogifkjkbfdocaaDoorBaseF
namespace Go.Proofs.YtogifkjkbfdocaaDoor.Base
open Go.RowKit Go.Proofs.YtogifkjkbfdocaaDoorW.PrintWords Go.Proofs.YtogifkjkbfdocaaDoorW.PrintMore

theorem and255 (x : Int) : 0 ≤ Go.bits .and .i64 x 255 ∧ Go.bits .and .i64 x 255 ≤ 255 := by
  unfold Go.bits
  have h : (BitVec.ofInt IntKind.i64.bits x &&& BitVec.ofInt IntKind.i64.bits 255).toNat ≤ 255 := by
    rw [BitVec.toNat_and]
    exact Nat.le_trans Nat.and_le_right (by decide)
  simp only [IntKind.wrap_i64]
  omega
theorem tmod_in {x n : Int} (hx : 0 ≤ x) (hn : 0 < n) : 0 ≤ Int.tmod x n ∧ Int.tmod x n < n := by
  rw [Int.tmod_eq_emod_of_nonneg hx]
  exact ⟨Int.emod_nonneg _ (by omega), Int.emod_lt_of_pos _ hn⟩

theorem frame_bytes (t : ByteArray) : bytesOf (frameB t) = varN t.size ++ (four (sumN t) ++ bytesOf t) := by
  unfold frameB
  rw [bytes_app, bytes_app, varB, bytes_str (varN_isB _), bytes_str (four_isB _), List.append_assoc]
def fsz (t : ByteArray) : Nat := (varN t.size).length + 4 + t.size
theorem frame_size (t : ByteArray) : (frameB t).size = fsz t := by
  rw [← bytes_len, frame_bytes]
  simp only [List.length_append, bytes_len, fsz, four, List.length_cons, List.length_nil]
  omega
theorem varN_prefix {a b : Nat} {rest : List Int} (ha : a ≤ 1000000000) (hb : b ≤ 1000000000) (h : varN b = varN a ++ rest) : (varN b).length = (varN a).length := by
  have h1 := rvL_reads hb []
  rw [List.append_nil, h, rvL_reads ha rest] at h1
  have := congrArg (fun o : Option (Int × Nat) => o.map (·.2)) h1
  simp only [Option.map_some, Option.some.injEq] at this
  rw [h]
  omega
theorem rvL_cut {m q : Nat} (hm : m ≤ 1000000000) (hq : q < (varN m).length) : rvL ((varN m).take q) = none := by
  cases h : rvL ((varN m).take q) with
  | none => rfl
  | some p =>
    exfalso
    have hk := rvL_ok h
    have hc := rvL_canon ((varN_isB m).take q) h
    rw [List.length_take] at hk
    rw [List.take_take, Nat.min_eq_left (by omega)] at hc
    have e : varN m = varN p.1.toNat ++ (varN m).drop p.2 := by rw [hc, List.take_append_drop]
    have := varN_prefix (by omega) hm e
    rw [hc, List.length_take] at this
    omega
/-- A whole frame is read. -/
theorem frame_reads {s t : ByteArray} {a : Nat} {rest : List Int} (ht : 1 ≤ t.size ∧ t.size ≤ 9000) (ha : a ≤ s.size) (h : (bytesOf s).drop a = bytesOf (frameB t) ++ rest) :
    uOk s a ∧ uRec s a = t ∧ uNext s a = a + fsz t := by
  have hin : 0 ≤ (a : Int) ∧ (a : Int) ≤ s.size := by omega
  have hr : pReadVar s a = ((t.size : Int), (a : Int) + (varN t.size).length, true) := by
    rw [pReadVar_in hin, show ((a : Int)).toNat = a by omega, h, frame_bytes, List.append_assoc]
    have := rvL_reads (m := t.size) (by omega) ((four (sumN t) ++ bytesOf t) ++ rest)
    unfold rvL at this
    rw [this]
    rfl
  have hlen : s.size - a = fsz t + rest.length := by
    have := congrArg List.length h
    rw [List.length_drop, bytes_len, List.length_append, bytes_len, frame_size] at this
    exact this
  have hd : ∀ i : Nat, (bytesOf s).drop (a + i) = (bytesOf (frameB t) ++ rest).drop i := fun i => by rw [← List.drop_drop, h]
  have e1 : ((a : Int) + (varN t.size).length + 4).toNat = a + ((varN t.size).length + 4) := by omega
  have e2 : ((a : Int) + (varN t.size).length + 4 + t.size).toNat = a + ((varN t.size).length + 4) + t.size := by omega
  have e3 : ((a : Int) + (varN t.size).length).toNat = a + (varN t.size).length := by omega
  have hrec : s.extract ((a : Int) + (varN t.size).length + 4).toNat ((a : Int) + (varN t.size).length + 4 + t.size).toNat = t := by
    apply bytes_inj
    rw [bytes_ext, e1, e2, hd, frame_bytes, List.append_assoc, ← List.drop_drop, List.drop_left, List.append_assoc]
    have : (four (sumN t) ++ (bytesOf t ++ rest)).drop 4 = bytesOf t ++ rest := by rw [show 4 = (four (sumN t)).length from rfl, List.drop_left]
    rw [this, show a + ((varN t.size).length + 4) + t.size - (a + ((varN t.size).length + 4)) = (bytesOf t).length by rw [bytes_len]; omega, List.take_left]
  have hsum : s.extract ((a : Int) + (varN t.size).length).toNat ((a : Int) + (varN t.size).length + 4).toNat = strOfNums (four (sumN t)) := by
    apply bytes_inj
    rw [bytes_ext, e1, e3, hd, frame_bytes, List.append_assoc, List.drop_left, bytes_str (four_isB _), List.append_assoc]
    rw [show a + ((varN t.size).length + 4) - (a + (varN t.size).length) = (four (sumN t)).length by simp [four]; omega, List.take_left]
  refine ⟨⟨?_, ?_, ?_, ?_⟩, ?_, ?_⟩
  · rw [hr]
  · rw [hr]; show 1 ≤ (t.size : Int) ∧ (t.size : Int) ≤ 9000; omega
  · rw [hr]; show (t.size : Int) + 4 ≤ s.size - ((a : Int) + (varN t.size).length); unfold fsz at hlen; omega
  · rw [hr]; show strOfNums (four (sumN (s.extract _ _))) = _; rw [hrec, hsum]
  · unfold uRec; rw [hr]; exact hrec
  · unfold uNext; rw [hr]; show (a : Int) + (varN t.size).length + 4 + t.size = _; unfold fsz; omega
/-- A frame of which the end is cut is not read. -/
theorem frame_cut {s t : ByteArray} {a q : Nat} (ht : 1 ≤ t.size ∧ t.size ≤ 9000) (ha : a ≤ s.size) (hq : q < fsz t) (h : (bytesOf s).drop a = (bytesOf (frameB t)).take q) : ¬ uOk s a := by
  intro hu
  have hin : 0 ≤ (a : Int) ∧ (a : Int) ≤ s.size := by omega
  have hlen : s.size - a = q := by
    have := congrArg List.length h
    rw [List.length_drop, bytes_len, List.length_take, bytes_len, frame_size] at this
    omega
  obtain ⟨h1, _, h3, _⟩ := hu
  by_cases c : q < (varN t.size).length
  · have hn := rvL_cut (m := t.size) (by omega) c
    rw [pReadVar_in hin, show ((a : Int)).toNat = a by omega, h, frame_bytes, List.take_append_of_le_length (by omega)] at h1
    unfold rvL at hn
    rw [hn] at h1
    cases h1
  · have hr : pReadVar s a = ((t.size : Int), (a : Int) + (varN t.size).length, true) := by
      rw [pReadVar_in hin, show ((a : Int)).toNat = a by omega, h, frame_bytes, List.take_append, List.take_of_length_le (l := varN t.size) (by omega)]
      have := rvL_reads (m := t.size) (by omega) ((four (sumN t) ++ bytesOf t).take (q - (varN t.size).length))
      unfold rvL at this
      rw [this]
      rfl
    rw [hr] at h3
    have h3' : (t.size : Int) + 4 ≤ s.size - ((a : Int) + (varN t.size).length) := h3
    unfold fsz at hq
    omega
theorem nothing_reads {s : ByteArray} {a : Nat} (ha : a ≤ s.size) (h : (bytesOf s).drop a = []) : ¬ uOk s a := by
  intro hu
  have hin : 0 ≤ (a : Int) ∧ (a : Int) ≤ s.size := by omega
  have h1 := hu.1
  rw [pReadVar_in hin, show ((a : Int)).toNat = a by omega, h] at h1
  cases h1
def framesL : List ByteArray → List Int
  | [] => []
  | t :: L => bytesOf (frameB t) ++ framesL L
def fits : Nat → List ByteArray → Nat
  | _, [] => 0
  | q, t :: L => if q < fsz t then 0 else fits (q - fsz t) L + 1
def fend : List ByteArray → Nat
  | [] => 0
  | t :: L => fsz t + fend L
theorem framesL_len (L : List ByteArray) : (framesL L).length = fend L := by
  induction L with
  | nil => rfl
  | cons t L ih => rw [framesL, List.length_append, bytes_len, frame_size, ih, fend]
theorem unfr_frames (s : ByteArray) : ∀ (L : List ByteArray) (q a f : Nat) (acc : List ByteArray), (∀ t ∈ L, 1 ≤ t.size ∧ t.size ≤ 9000) → a ≤ s.size → fits q L < f → (bytesOf s).drop a = (framesL L).take q →
    pUnfr s f acc a = (acc ++ L.take (fits q L), ((a + fend (L.take (fits q L)) : Nat) : Int)) := by
  intro L
  induction L with
  | nil =>
    intro q a f acc _ ha hf h
    obtain ⟨f, rfl⟩ : ∃ m, f = m + 1 := ⟨f - 1, by omega⟩
    rw [pUnfr_no (nothing_reads ha (by rw [h]; simp [framesL]))]
    simp [fend]
  | cons t L ih =>
    intro q a f acc hL ha hf h
    obtain ⟨f, rfl⟩ : ∃ m, f = m + 1 := ⟨f - 1, by omega⟩
    have ht := hL t List.mem_cons_self
    by_cases c : q < fsz t
    · rw [framesL, List.take_append_of_le_length (by rw [bytes_len, frame_size]; omega)] at h
      rw [pUnfr_no (frame_cut ht ha c h), fits, if_pos c]
      simp [fend]
    · rw [framesL, List.take_append, List.take_of_length_le (l := bytesOf (frameB t)) (by rw [bytes_len, frame_size]; omega), bytes_len, frame_size] at h
      obtain ⟨h1, h2, h3⟩ := frame_reads ht ha h
      have hlen := congrArg List.length h
      rw [List.length_drop, bytes_len, List.length_append, bytes_len, frame_size] at hlen
      have hd : (bytesOf s).drop (a + fsz t) = (framesL L).take (q - fsz t) := by
        rw [← List.drop_drop, h, show fsz t = (bytesOf (frameB t)).length by rw [bytes_len, frame_size], List.drop_left]
      have hz : 0 < fsz t := by unfold fsz; omega
      rw [pUnfr_yes h1, h2, h3, fits, if_neg c]
      have := ih (q - fsz t) (a + fsz t) f (acc ++ [t]) (fun x hx => hL x (List.mem_cons_of_mem _ hx)) (by omega) (by rw [fits, if_neg c] at hf; omega) hd
      rw [show ((a : Int) + (fsz t : Int)) = ((a + fsz t : Nat) : Int) by omega, this, List.take_succ_cons, fend, List.append_assoc]
      congr 1
      omega
theorem fits_le : ∀ (L : List ByteArray) (q : Nat), fits q L ≤ L.length := by
  intro L
  induction L with
  | nil => intro q; exact Nat.le_refl _
  | cons t L ih =>
    intro q
    rw [fits]
    split
    · exact Nat.zero_le _
    · have := ih (q - fsz t)
      rw [List.length_cons]
      omega
theorem fits_fend : ∀ (L : List ByteArray) (q : Nat), fend (L.take (fits q L)) ≤ q := by
  intro L
  induction L with
  | nil => intro q; simp [fend]
  | cons t L ih =>
    intro q
    rw [fits]
    split
    · simp [fend]
    · have := ih (q - fsz t)
      rw [List.take_succ_cons, fend]
      omega
theorem fits_next : ∀ (L : List ByteArray) (q : Nat), fits q L < L.length → q < fend (L.take (fits q L + 1)) := by
  intro L
  induction L with
  | nil => intro q h; simp at h
  | cons t L ih =>
    intro q h
    rw [fits] at h ⊢
    by_cases c : q < fsz t
    · rw [if_pos c, List.take_succ_cons, fend]
      omega
    · rw [if_neg c] at h ⊢
      rw [List.length_cons] at h
      have := ih (q - fsz t) (by omega)
      rw [List.take_succ_cons, fend]
      omega
theorem fits_all : ∀ (L : List ByteArray) (q : Nat), fend L ≤ q → fits q L = L.length := by
  intro L
  induction L with
  | nil => intro q _; rfl
  | cons t L ih =>
    intro q h
    rw [fend] at h
    rw [fits, if_neg (by omega), ih (q - fsz t) (by omega), List.length_cons]
theorem fits_q : ∀ (L : List ByteArray) (q : Nat), fits q L ≤ q := by
  intro L
  induction L with
  | nil => intro q; exact Nat.zero_le _
  | cons t L ih =>
    intro q
    rw [fits]
    split
    · exact Nat.zero_le _
    · have := ih (q - fsz t)
      have : 4 ≤ fsz t := by unfold fsz; omega
      omega
theorem unframe_frames (s : ByteArray) (L : List ByteArray) (q : Nat) (hL : ∀ t ∈ L, 1 ≤ t.size ∧ t.size ≤ 9000) (hs : s.size ≤ 20000) (hq : q = s.size) (h : bytesOf s = (framesL L).take q) :
    pUnframe s = (L.take (fits q L), ((fend (L.take (fits q L)) : Nat) : Int)) := by
  rw [pUnframe, if_pos hs]
  have := unfr_frames s L q 0 (s.size + 1) [] hL (by omega) (by have := fits_q L q; omega) (by rw [List.drop_zero]; exact h)
  simp only [List.nil_append, Nat.zero_add] at this
  exact this
end Go.Proofs.YtogifkjkbfdocaaDoor.Base
