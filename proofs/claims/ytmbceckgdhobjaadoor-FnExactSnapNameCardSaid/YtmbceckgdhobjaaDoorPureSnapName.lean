/- The reference's SnapName gives 's' and the decimal numeral, or nothing outside its range. -/
import Derived.Test.YtmbceckgdhobjaaDoorPSnapNamex1
import Derived.Test.YtmbceckgdhobjaaDoorBase
import Derived.Lib.ItoaMem
namespace Go.Proofs.YtmbceckgdhobjaaDoor.Pure
open Go.RowKit Go.Proofs.YtmbceckgdhobjaaDoor.PSnapName Go.Proofs.YtmbceckgdhobjaaDoorW.PrintWords Go.Proofs.YtmbceckgdhobjaaDoorW.PrintLast Go.Proofs.YtmbceckgdhobjaaDoorW.PrintMore Go.Proofs.YtmbceckgdhobjaaDoor.Base
set_option linter.unusedVariables false
set_option linter.unusedSimpArgs false

theorem u8s (n : Nat) : UInt8.ofNat ((n : Int)).toNat = UInt8.ofNat n := by rw [Int.toNat_natCast]
def decU : Nat → ByteArray → ByteArray
  | n, s => if n = 0 then s else decU (n / 10) (strOfNums [((48 + n % 10 : Nat) : Int)] ++ s)
termination_by n => n
decreasing_by omega
theorem decU_zero (s : ByteArray) : decU 0 s = s := by rw [decU, if_pos rfl]
theorem decU_more {n : Nat} (h : n ≠ 0) (s : ByteArray) : decU n s = decU (n / 10) (strOfNums [((48 + n % 10 : Nat) : Int)] ++ s) := by rw [decU, if_neg h]
theorem one_str (n : Nat) : strOfNums [(n : Int)] = ⟨[UInt8.ofNat n].toArray⟩ := by
  simp only [strOfNums, List.map_cons, List.map_nil, u8s]
theorem two_str (a b : List UInt8) : (⟨a.toArray⟩ : ByteArray) ++ ⟨b.toArray⟩ = ⟨(a ++ b).toArray⟩ := by
  apply ByteArray.ext
  simp
theorem decU_eq (n : Nat) : ∀ s, n ≠ 0 → decU n s = ⟨(Lib.decDigits n).toArray⟩ ++ s := by
  induction n using Nat.strongRecOn with
  | ind n ih =>
    intro s h
    rw [decU_more h]
    by_cases c : n < 10
    · rw [show n / 10 = 0 by omega, decU_zero, one_str, show n % 10 = n by omega, Lib.decDigits, dif_pos c]
    · rw [ih (n / 10) (by omega) _ (by omega), one_str]
      conv => rhs; rw [Lib.decDigits, dif_neg c, ← two_str]
      exact (ByteArray.append_assoc).symm
theorem spec_l01Figure_ev (d : Int) (h0 : 0 ≤ d) (h1 : d < 10) : spec_l01Figure.f d = some (48 + d) := by
  have e : wrap64 (48 + d) = 48 + d := w64 (by omega) (by omega)
  have e2 : (48 + d) % 256 = 48 + d := by omega
  simp only [spec_l01Figure.f, h1, if_true, e, e2]
theorem spec_Decimal_l0 (neg : Bool) : ∀ (m : Nat) (x : Int) (s : ByteArray), x.natAbs < 10 ^ m → -9223372036854775808 ≤ x → x ≤ 9223372036854775807 → s.size + m ≤ 1000 →
    Ev (fun k => spec_Decimal.l0 k x neg s) (if neg = true then (⟨#[45]⟩ : ByteArray) ++ decU x.natAbs s else decU x.natAbs s) := by
  intro m
  induction m with
  | zero =>
    intro x s h hx hy hs
    apply ev_succ
    have hz : x = 0 := by simp at h; omega
    subst hz
    have c : 1 + s.size ≤ 9223372036854775807 := by omega
    simp only [spec_Decimal.l0, if_true, c, Int.natAbs_zero, decU_zero]
    cases neg <;> simp
  | succ m ih =>
    intro x s h hx hy hs
    by_cases hz : x = 0
    · subst hz
      apply ev_succ
      have c : 1 + s.size ≤ 9223372036854775807 := by omega
      simp only [spec_Decimal.l0, if_true, c, Int.natAbs_zero, decU_zero]
      cases neg <;> simp
    · apply ev_succ
      have hm : x.natAbs / 10 < 10 ^ m := by rw [Nat.pow_succ] at h; omega
      have ht : (Int.tdiv x 10).natAbs = x.natAbs / 10 := by rw [Int.natAbs_tdiv]; rfl
      have et : wrap64 (Int.tdiv x 10) = Int.tdiv x 10 := w64 (by omega) (by omega)
      have hn : x.natAbs ≠ 0 := by omega
      have hd : (Int.tmod x 10).natAbs = x.natAbs % 10 := by rw [Int.natAbs_tmod]; rfl
      have hlast : ∀ y : Int, y = ((48 + x.natAbs % 10 : Nat) : Int) → Ev (fun k => (some ([y] : List Int)).bind fun y_ => (if (strOfNums y_).size + s.size ≤ 9223372036854775807 then spec_Decimal.l0 k (wrap64 (Int.tdiv x 10)) neg (strOfNums y_ ++ s) else none)) (if neg = true then (⟨#[45]⟩ : ByteArray) ++ decU x.natAbs s else decU x.natAbs s) := by
        rintro y rfl
        have c : (strOfNums [((48 + x.natAbs % 10 : Nat) : Int)]).size + s.size ≤ 9223372036854775807 := by rw [str_len]; simp; omega
        simp only [Option.bind_some, c, if_true, et]
        rw [decU_more hn, ← ht]
        refine ih _ _ (by rw [ht]; exact hm) (by omega) (by omega) ?_
        rw [size_app, str_len]; simp; omega
      by_cases c : Int.tmod x 10 < 0
      · have e : wrap64 (-(Int.tmod x 10)) = -(Int.tmod x 10) := w64 (by omega) (by omega)
        simp only [spec_Decimal.l0, hz, if_false, c, if_true, e]
        rw [spec_l01Figure_ev _ (by omega) (by omega)]
        simp only [Option.bind_some]
        exact hlast _ (by omega)
      · simp only [spec_Decimal.l0, hz, if_false, c]
        rw [spec_l01Figure_ev _ (by omega) (by omega)]
        simp only [Option.bind_some]
        exact hlast _ (by omega)
theorem spec_Decimal_ev (n : Int) (h0 : -9223372036854775808 ≤ n) (h1 : n ≤ 9223372036854775807) : Ev (fun k => spec_Decimal.f k n) ⟨(Lib.itoa n).toArray⟩ := by
  by_cases hz : n = 0
  · subst hz
    have e : Lib.itoa 0 = [48] := by
      rw [Lib.itoa, if_neg (by decide), show (0 : Int).toNat = 0 from rfl, Lib.decDigits, dif_pos (by decide)]; rfl
    simp only [spec_Decimal.f, if_true, e]
    exact Ev.now _
  · have key := spec_Decimal_l0 (decide (n < 0)) 20 n ⟨#[]⟩ (by omega) h0 h1 (by decide)
    have hn : n.natAbs ≠ 0 := by omega
    rw [decU_eq _ _ hn] at key
    have e0 : ∀ l : List UInt8, (⟨l.toArray⟩ : ByteArray) ++ (⟨#[]⟩ : ByteArray) = ⟨l.toArray⟩ := fun l => by rw [show (⟨#[]⟩ : ByteArray) = ⟨([] : List UInt8).toArray⟩ from rfl, two_str, List.append_nil]
    rw [e0] at key
    simp only [spec_Decimal.f, hz, if_false]
    by_cases c : n < 0
    · have e1 : Lib.itoa n = [45] ++ Lib.decDigits n.natAbs := by rw [Lib.itoa, if_pos c]; rfl
      rw [e1, ← two_str]
      simpa [c] using key
    · have e1 : Lib.itoa n = Lib.decDigits n.natAbs := by rw [Lib.itoa, if_neg c, show n.toNat = n.natAbs by omega]
      rw [e1]
      simpa [c] using key

theorem nDigits_le (u : Nat) : Lib.nDigits u ≤ u + 1 := by
  induction u using Nat.strongRecOn with
  | ind u ih =>
    by_cases c : u < 10
    · rw [Lib.nDigits_small c]; omega
    · rw [Lib.nDigits_big c]
      have := ih (u / 10) (by omega)
      omega
theorem itoa_size (n : Int) (h0 : 0 ≤ n) (h1 : n ≤ 1000000) : (⟨(Lib.itoa n).toArray⟩ : ByteArray).size ≤ 1000001 := by
  show (Lib.itoa n).toArray.size ≤ 1000001
  rw [List.size_toArray, Lib.itoa, if_neg (by omega), Lib.decDigits_length]
  have := nDigits_le n.toNat
  omega
def pName (n : Int) : ByteArray := if 0 ≤ n ∧ n ≤ 1000000 then (⟨#[115]⟩ : ByteArray) ++ ⟨(Lib.itoa n).toArray⟩ else ⟨#[]⟩
theorem spec_l01In_eq (a b c : Int) : spec_l01In.f a b c = some (decide (b ≤ a ∧ a ≤ c)) := by
  unfold spec_l01In.f
  by_cases h : a ≥ b
  · rw [if_pos h]; congr 1; rw [decide_eq_decide]; omega
  · rw [if_neg h]; congr 1; rw [decide_eq_false]; omega
theorem SnapName (n : Int) (h0 : -9223372036854775808 ≤ n) (h1 : n ≤ 9223372036854775807) : ∃ k, spec_SnapName.f k n = some (pName n) := by
  apply ev_rounds
  simp only [spec_SnapName.f, spec_l01In_eq, Option.bind_some]
  by_cases c : 0 ≤ n ∧ n ≤ 1000000
  · simp only [c, and_self, decide_true, if_true]
    refine Ev.bind (spec_Decimal_ev n h0 h1) ?_
    have hs := itoa_size n c.1 (by omega)
    have c2 : 1 + (⟨(Lib.itoa n).toArray⟩ : ByteArray).size ≤ 9223372036854775807 := by omega
    simp only [c2, if_true]
    rw [pName, if_pos c]
    exact Ev.now _
  · simp only [c, decide_false, Bool.false_eq_true, if_false]
    rw [pName, if_neg c]
    exact Ev.now _

end Go.Proofs.YtmbceckgdhobjaaDoor.Pure
