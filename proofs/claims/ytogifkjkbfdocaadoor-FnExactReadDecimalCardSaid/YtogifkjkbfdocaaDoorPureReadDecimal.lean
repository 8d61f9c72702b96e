/- The reference's ReadDecimal reads just the numerals of 0 .. MaxNumber. -/
import Derived.Test.YtogifkjkbfdocaaDoorPReadDecimalx1
import Derived.Test.YtogifkjkbfdocaaDoorBase
import Derived.Test.YtogifkjkbfdocaaDoorNumerals
namespace Go.Proofs.YtogifkjkbfdocaaDoor.Pure
open Go.RowKit Go.Proofs.YtogifkjkbfdocaaDoor.PReadDecimal Go.Proofs.YtogifkjkbfdocaaDoorW.PrintWords Go.Proofs.YtogifkjkbfdocaaDoorW.PrintLast Go.Proofs.YtogifkjkbfdocaaDoorW.PrintMore Go.Proofs.YtogifkjkbfdocaaDoor.Base
open Go.Proofs.YtogifkjkbfdocaaDoor.Numerals
set_option linter.unusedVariables false
set_option linter.unusedSimpArgs false

theorem u8s (n : Nat) : UInt8.ofNat ((n : Int)).toNat = UInt8.ofNat n := by rw [Int.toNat_natCast]
def decU : Nat → ByteArray → ByteArray
  | n, s => if n = 0 then s else decU (n / 10) (strOfNums [((48 + n % 10 : Nat) : Int)] ++ s)
termination_by n => n
decreasing_by omega
theorem decU_zero (s : ByteArray) : decU 0 s = s := by rw [decU, if_pos rfl]
theorem decU_more {n : Nat} (h : n ≠ 0) (s : ByteArray) : decU n s = decU (n / 10) (strOfNums [((48 + n % 10 : Nat) : Int)] ++ s) := by rw [decU, if_neg h]
theorem one_str (n : Nat) : strOfNums [(n : Int)] = ⟨[UInt8.ofNat n].toArray⟩ := by
  simp only [strOfNums, List.map_cons, List.map_nil, u8s]
theorem two_str (a b : List UInt8) : (⟨a.toArray⟩ : ByteArray) ++ ⟨b.toArray⟩ = ⟨(a ++ b).toArray⟩ := by
  apply ByteArray.ext
  simp
theorem decU_eq (n : Nat) : ∀ s, n ≠ 0 → decU n s = ⟨(Lib.decDigits n).toArray⟩ ++ s := by
  induction n using Nat.strongRecOn with
  | ind n ih =>
    intro s h
    rw [decU_more h]
    by_cases c : n < 10
    · rw [show n / 10 = 0 by omega, decU_zero, one_str, show n % 10 = n by omega, Lib.decDigits, dif_pos c]
    · rw [ih (n / 10) (by omega) _ (by omega), one_str]
      conv => rhs; rw [Lib.decDigits, dif_neg c, ← two_str]
      exact (ByteArray.append_assoc).symm
theorem spec_l01Figure_ev (d : Int) (h0 : 0 ≤ d) (h1 : d < 10) : spec_l01Figure.f d = some (48 + d) := by
  have e : wrap64 (48 + d) = 48 + d := w64 (by omega) (by omega)
  have e2 : (48 + d) % 256 = 48 + d := by omega
  simp only [spec_l01Figure.f, h1, if_true, e, e2]
theorem spec_Decimal_l0 (neg : Bool) : ∀ (m : Nat) (x : Int) (s : ByteArray), x.natAbs < 10 ^ m → -9223372036854775808 ≤ x → x ≤ 9223372036854775807 → s.size + m ≤ 1000 →
    Ev (fun k => spec_Decimal.l0 k x neg s) (if neg = true then (⟨#[45]⟩ : ByteArray) ++ decU x.natAbs s else decU x.natAbs s) := by
  intro m
  induction m with
  | zero =>
    intro x s h hx hy hs
    apply ev_succ
    have hz : x = 0 := by simp at h; omega
    subst hz
    have c : 1 + s.size ≤ 9223372036854775807 := by omega
    simp only [spec_Decimal.l0, if_true, c, Int.natAbs_zero, decU_zero]
    cases neg <;> simp
  | succ m ih =>
    intro x s h hx hy hs
    by_cases hz : x = 0
    · subst hz
      apply ev_succ
      have c : 1 + s.size ≤ 9223372036854775807 := by omega
      simp only [spec_Decimal.l0, if_true, c, Int.natAbs_zero, decU_zero]
      cases neg <;> simp
    · apply ev_succ
      have hm : x.natAbs / 10 < 10 ^ m := by rw [Nat.pow_succ] at h; omega
      have ht : (Int.tdiv x 10).natAbs = x.natAbs / 10 := by rw [Int.natAbs_tdiv]; rfl
      have et : wrap64 (Int.tdiv x 10) = Int.tdiv x 10 := w64 (by omega) (by omega)
      have hn : x.natAbs ≠ 0 := by omega
      have hd : (Int.tmod x 10).natAbs = x.natAbs % 10 := by rw [Int.natAbs_tmod]; rfl
      have hlast : ∀ y : Int, y = ((48 + x.natAbs % 10 : Nat) : Int) → Ev (fun k => (some ([y] : List Int)).bind fun y_ => (if (strOfNums y_).size + s.size ≤ 9223372036854775807 then spec_Decimal.l0 k (wrap64 (Int.tdiv x 10)) neg (strOfNums y_ ++ s) else none)) (if neg = true then (⟨#[45]⟩ : ByteArray) ++ decU x.natAbs s else decU x.natAbs s) := by
        rintro y rfl
        have c : (strOfNums [((48 + x.natAbs % 10 : Nat) : Int)]).size + s.size ≤ 9223372036854775807 := by rw [str_len]; simp; omega
        simp only [Option.bind_some, c, if_true, et]
        rw [decU_more hn, ← ht]
        refine ih _ _ (by rw [ht]; exact hm) (by omega) (by omega) ?_
        rw [size_app, str_len]; simp; omega
      by_cases c : Int.tmod x 10 < 0
      · have e : wrap64 (-(Int.tmod x 10)) = -(Int.tmod x 10) := w64 (by omega) (by omega)
        simp only [spec_Decimal.l0, hz, if_false, c, if_true, e]
        rw [spec_l01Figure_ev _ (by omega) (by omega)]
        simp only [Option.bind_some]
        exact hlast _ (by omega)
      · simp only [spec_Decimal.l0, hz, if_false, c]
        rw [spec_l01Figure_ev _ (by omega) (by omega)]
        simp only [Option.bind_some]
        exact hlast _ (by omega)
theorem spec_Decimal_ev (n : Int) (h0 : -9223372036854775808 ≤ n) (h1 : n ≤ 9223372036854775807) : Ev (fun k => spec_Decimal.f k n) ⟨(Lib.itoa n).toArray⟩ := by
  by_cases hz : n = 0
  · subst hz
    have e : Lib.itoa 0 = [48] := by
      rw [Lib.itoa, if_neg (by decide), show (0 : Int).toNat = 0 from rfl, Lib.decDigits, dif_pos (by decide)]; rfl
    simp only [spec_Decimal.f, if_true, e]
    exact Ev.now _
  · have key := spec_Decimal_l0 (decide (n < 0)) 20 n ⟨#[]⟩ (by omega) h0 h1 (by decide)
    have hn : n.natAbs ≠ 0 := by omega
    rw [decU_eq _ _ hn] at key
    have e0 : ∀ l : List UInt8, (⟨l.toArray⟩ : ByteArray) ++ (⟨#[]⟩ : ByteArray) = ⟨l.toArray⟩ := fun l => by rw [show (⟨#[]⟩ : ByteArray) = ⟨([] : List UInt8).toArray⟩ from rfl, two_str, List.append_nil]
    rw [e0] at key
    simp only [spec_Decimal.f, hz, if_false]
    by_cases c : n < 0
    · have e1 : Lib.itoa n = [45] ++ Lib.decDigits n.natAbs := by rw [Lib.itoa, if_pos c]; rfl
      rw [e1, ← two_str]
      simpa [c] using key
    · have e1 : Lib.itoa n = Lib.decDigits n.natAbs := by rw [Lib.itoa, if_neg c, show n.toNat = n.natAbs by omega]
      rw [e1]
      simpa [c] using key

theorem bt_get (s : ByteArray) (i : Nat) (h : i < s.data.toList.length) : bt s (i : Int) = (((s.data.toList[i]).toNat : Nat) : Int) := by
  have h2 : i < s.size := by simpa using h
  unfold bt
  rw [Int.toNat_natCast, dif_pos h2]
  simp [ByteArray.getElem_eq_getElem_data]
theorem step_val (v b : Int) (h0 : 0 ≤ v) (h1 : v < 1000000000) (b0 : 48 ≤ b) (b1 : b ≤ 57) : wrap64 (wrap64 (wrap64 (10 * v) + wrap64 b) - 48) = 10 * v + (b - 48) := by
  rw [w64 (x := 10 * v) (by omega) (by omega), w64 (x := b) (by omega) (by omega), w64 (x := 10 * v + b) (by omega) (by omega), w64 (x := 10 * v + b - 48) (by omega) (by omega)]
  omega
theorem step_cast (v b : Int) (n c : Nat) (hv : v = (n : Int)) (hb : b = (c : Int)) (h : 48 ≤ c) : 10 * v + (b - 48) = ((n * 10 + (c - 48) : Nat) : Int) := by omega
theorem spec_ReadDecimal_l0 (s : ByteArray) (hs : s.data.toList.length ≤ 10) : ∀ (m i : Nat) (v : Int), s.data.toList.length - i = m → i ≤ s.data.toList.length → digs (s.data.toList.take i) → v = ((dval 0 (s.data.toList.take i) : Nat) : Int) →
    Ev (fun k => spec_ReadDecimal.l0 k s v (i : Int)) (pDec s) := by
  have hsz : (s.size : Int) = ((s.data.toList.length : Nat) : Int) := by simp
  intro m
  induction m with
  | zero =>
    intro i v hm hi hd hv
    have hi2 : s.data.toList.length ≤ i := by omega
    rw [List.take_of_length_le hi2] at hd hv
    apply ev_succ
    have c1 : ¬ ((i : Int) < (s.size : Int)) := by rw [hsz]; omega
    simp only [spec_ReadDecimal.l0, c1, if_false]
    by_cases c2 : v > 1000000000
    · simp only [c2, if_true]
      rw [pDec_no (fun h => by have := h.2.1; omega)]
      exact Ev.now _
    · simp only [c2, if_false]
      refine Ev.bind (spec_Decimal_ev v (by omega) (by omega)) ?_
      have e : Lib.itoa v = Lib.decDigits (dval 0 s.data.toList) := by rw [hv, itoa_nat]
      by_cases c3 : (⟨(Lib.itoa v).toArray⟩ : ByteArray).toList = s.toList
      · rw [if_pos c3]
        have c4 : Lib.itoa v = s.data.toList := by rw [data_eq, data_eq] at c3; exact c3
        rw [pDec_yes ⟨hd, by omega, by rw [← e]; exact c4⟩, ← hv]
        exact Ev.now _
      · rw [if_neg c3]
        have c4 : ¬ Lib.itoa v = s.data.toList := fun h => c3 (by rw [data_eq, data_eq]; exact h)
        rw [pDec_no (fun h => c4 (by rw [e]; exact h.2.2))]
        exact Ev.now _
  | succ m ih =>
    intro i v hm hi hd hv
    have hi2 : i < s.data.toList.length := by omega
    apply ev_succ
    have c1 : (i : Int) < (s.size : Int) := by rw [hsz]; omega
    have c0 : (0 : Int) ≤ (i : Int) := by omega
    have hb := bt_get s i hi2
    have hlt : (s.data.toList[i]).toNat < 256 := (s.data.toList[i]).toNat_lt
    simp only [spec_ReadDecimal.l0, c1, c0, if_true]
    have hno : ¬ (48 ≤ (s.data.toList[i]).toNat ∧ (s.data.toList[i]).toNat ≤ 57) → ¬ isDec s.data.toList := fun hx h => hx (h.1 _ (List.getElem_mem hi2))
    by_cases c2 : bt s (i : Int) < 48
    · simp only [c2, if_true]
      rw [pDec_no (hno (by omega))]
      exact Ev.now _
    · simp only [c2, if_false]
      by_cases c3 : bt s (i : Int) > 57
      · simp only [c3, if_true]
        rw [pDec_no (hno (by omega))]
        exact Ev.now _
      · simp only [c3, if_false]
        have ht : s.data.toList.take (i + 1) = s.data.toList.take i ++ [s.data.toList[i]] := List.take_succ_eq_append_getElem hi2
        have hd2 : digs (s.data.toList.take (i + 1)) := by
          rw [ht]
          intro c hc
          rcases List.mem_append.mp hc with h | h
          · exact hd c h
          · obtain rfl := List.mem_singleton.mp h
            omega
        have hv2 : dval 0 (s.data.toList.take (i + 1)) = dval 0 (s.data.toList.take i) * 10 + ((s.data.toList[i]).toNat - 48) := by
          rw [ht, dval_append]; rfl
        have hlen : (s.data.toList.take i).length ≤ 9 := by rw [List.length_take]; omega
        have hsmall : dval 0 (s.data.toList.take i) < 1000000000 := by
          have h1 := dval_lt _ hd 0 0 (by decide)
          have h2 : 10 ^ (0 + (s.data.toList.take i).length) ≤ 10 ^ 9 := Nat.pow_le_pow_right (by decide) (by omega)
          exact Nat.lt_of_lt_of_le h1 (Nat.le_trans h2 (by decide))
        have q1 : s.data.toList.length - (i + 1) = m := by omega
        have q2 : i + 1 ≤ s.data.toList.length := by omega
        have v0 : 0 ≤ v := by rw [hv]; exact Int.natCast_nonneg _
        have v1 : v < 1000000000 := by rw [hv]; exact Int.ofNat_lt.mpr hsmall
        have e1 : wrap64 (wrap64 (wrap64 (10 * v) + wrap64 (bt s (i : Int))) - 48) = ((dval 0 (s.data.toList.take (i + 1)) : Nat) : Int) := by
          rw [step_val v (bt s (i : Int)) v0 v1 (by omega) (by omega), hv2]
          exact step_cast _ _ _ _ hv hb (by omega)
        have e2 : wrap64 ((i : Int) + 1) = ((i + 1 : Nat) : Int) := by rw [w64 (by omega) (by omega)]; omega
        rw [e1, e2]
        exact ih (i + 1) _ q1 q2 hd2 rfl
theorem spec_ReadDecimal_ev (s : ByteArray) : Ev (fun k => spec_ReadDecimal.f k s) (pDec s) := by
  have hsz : s.size = s.data.toList.length := by simp
  unfold spec_ReadDecimal.f
  by_cases c : (s.size : Int) > 10
  · simp only [c, if_true]
    rw [pDec_no (fun h => by have := isDec_len h; omega)]
    exact Ev.now _
  · simp only [c, if_false]
    have h := spec_ReadDecimal_l0 s (by omega) s.data.toList.length 0 0 (Nat.sub_zero _) (Nat.zero_le _) (by intro c hc; simp at hc) (by rw [List.take_zero]; rfl)
    rw [show ((0 : Nat) : Int) = 0 from rfl] at h
    exact h

theorem ReadDecimal (s : ByteArray) : ∃ k, spec_ReadDecimal.f k s = some (pDec s) := ev_rounds (spec_ReadDecimal_ev s)

end Go.Proofs.YtogifkjkbfdocaaDoor.Pure
