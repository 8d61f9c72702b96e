/- Of a drawn disk and drawn acts: what the acts do one by one is what they do together, what is added stands at the end, what is dropped is gone, and the program and the reference agree on all of it: for every code. -/
import Derived.Test.YtklbkkoojkmjbaaQFnActsx19
import Derived.Test.YtklbkkoojkmjbaaBaseL
import Derived.Test.YtklbkkoojkmjbaaBaseS
import Derived.Test.YtklbkkoojkmjbaaBaseB
import Derived.Lib.ItoaMem
namespace Go.Proofs.Ytklbkkoojkmjbaa.Pure
open Go.RowKit Go.Proofs.Ytklbkkoojkmjbaa.QFnActs Go.Proofs.YtklbkkoojkmjbaaW.PrintWords Go.Proofs.YtklbkkoojkmjbaaW.PrintLast Go.Proofs.YtklbkkoojkmjbaaW.PrintMore Go.Proofs.Ytklbkkoojkmjbaa.Base
set_option linter.unusedVariables false
set_option linter.unusedSimpArgs false

theorem and255 (x : Int) : 0 ≤ Go.bits .and .i64 x 255 ∧ Go.bits .and .i64 x 255 ≤ 255 := by
  unfold Go.bits
  have h : (BitVec.ofInt IntKind.i64.bits x &&& BitVec.ofInt IntKind.i64.bits 255).toNat ≤ 255 := by
    rw [BitVec.toNat_and]
    exact Nat.le_trans Nat.and_le_right (by decide)
  simp only [IntKind.wrap_i64]
  omega
theorem tmod_in {x n : Int} (hx : 0 ≤ x) (hn : 0 < n) : 0 ≤ Int.tmod x n ∧ Int.tmod x n < n := by
  rw [Int.tmod_eq_emod_of_nonneg hx]
  exact ⟨Int.emod_nonneg _ (by omega), Int.emod_lt_of_pos _ hn⟩


theorem u8s (n : Nat) : UInt8.ofNat ((n : Int)).toNat = UInt8.ofNat n := by rw [Int.toNat_natCast]
def decU : Nat → ByteArray → ByteArray
  | n, s => if n = 0 then s else decU (n / 10) (strOfNums [((48 + n % 10 : Nat) : Int)] ++ s)
termination_by n => n
decreasing_by omega
theorem decU_zero (s : ByteArray) : decU 0 s = s := by rw [decU, if_pos rfl]
theorem decU_more {n : Nat} (h : n ≠ 0) (s : ByteArray) : decU n s = decU (n / 10) (strOfNums [((48 + n % 10 : Nat) : Int)] ++ s) := by rw [decU, if_neg h]
theorem one_str (n : Nat) : strOfNums [(n : Int)] = ⟨[UInt8.ofNat n].toArray⟩ := by
  simp only [strOfNums, List.map_cons, List.map_nil, u8s]
theorem two_str (a b : List UInt8) : (⟨a.toArray⟩ : ByteArray) ++ ⟨b.toArray⟩ = ⟨(a ++ b).toArray⟩ := by
  apply ByteArray.ext
  simp
theorem decU_eq (n : Nat) : ∀ s, n ≠ 0 → decU n s = ⟨(Lib.decDigits n).toArray⟩ ++ s := by
  induction n using Nat.strongRecOn with
  | ind n ih =>
    intro s h
    rw [decU_more h]
    by_cases c : n < 10
    · rw [show n / 10 = 0 by omega, decU_zero, one_str, show n % 10 = n by omega, Lib.decDigits, dif_pos c]
    · rw [ih (n / 10) (by omega) _ (by omega), one_str]
      conv => rhs; rw [Lib.decDigits, dif_neg c, ← two_str]
      exact (ByteArray.append_assoc).symm
theorem spec_l01Figure_ev (d : Int) (h0 : 0 ≤ d) (h1 : d < 10) : spec_l01Figure.f d = some (48 + d) := by
  have e : wrap64 (48 + d) = 48 + d := w64 (by omega) (by omega)
  have e2 : (48 + d) % 256 = 48 + d := by omega
  simp only [spec_l01Figure.f, h1, if_true, e, e2]
theorem spec_Decimal_l0 (neg : Bool) : ∀ (m : Nat) (x : Int) (s : ByteArray), x.natAbs < 10 ^ m → -9223372036854775808 ≤ x → x ≤ 9223372036854775807 → s.size + m ≤ 1000 →
    Ev (fun k => spec_Decimal.l0 k x neg s) (if neg = true then (⟨#[45]⟩ : ByteArray) ++ decU x.natAbs s else decU x.natAbs s) := by
  intro m
  induction m with
  | zero =>
    intro x s h hx hy hs
    apply ev_succ
    have hz : x = 0 := by simp at h; omega
    subst hz
    have c : 1 + s.size ≤ 9223372036854775807 := by omega
    simp only [spec_Decimal.l0, if_true, c, Int.natAbs_zero, decU_zero]
    cases neg <;> simp
  | succ m ih =>
    intro x s h hx hy hs
    by_cases hz : x = 0
    · subst hz
      apply ev_succ
      have c : 1 + s.size ≤ 9223372036854775807 := by omega
      simp only [spec_Decimal.l0, if_true, c, Int.natAbs_zero, decU_zero]
      cases neg <;> simp
    · apply ev_succ
      have hm : x.natAbs / 10 < 10 ^ m := by rw [Nat.pow_succ] at h; omega
      have ht : (Int.tdiv x 10).natAbs = x.natAbs / 10 := by rw [Int.natAbs_tdiv]; rfl
      have et : wrap64 (Int.tdiv x 10) = Int.tdiv x 10 := w64 (by omega) (by omega)
      have hn : x.natAbs ≠ 0 := by omega
      have hd : (Int.tmod x 10).natAbs = x.natAbs % 10 := by rw [Int.natAbs_tmod]; rfl
      have hlast : ∀ y : Int, y = ((48 + x.natAbs % 10 : Nat) : Int) → Ev (fun k => (some ([y] : List Int)).bind fun y_ => (if (strOfNums y_).size + s.size ≤ 9223372036854775807 then spec_Decimal.l0 k (wrap64 (Int.tdiv x 10)) neg (strOfNums y_ ++ s) else none)) (if neg = true then (⟨#[45]⟩ : ByteArray) ++ decU x.natAbs s else decU x.natAbs s) := by
        rintro y rfl
        have c : (strOfNums [((48 + x.natAbs % 10 : Nat) : Int)]).size + s.size ≤ 9223372036854775807 := by rw [str_len]; simp; omega
        simp only [Option.bind_some, c, if_true, et]
        rw [decU_more hn, ← ht]
        refine ih _ _ (by rw [ht]; exact hm) (by omega) (by omega) ?_
        rw [size_app, str_len]; simp; omega
      by_cases c : Int.tmod x 10 < 0
      · have e : wrap64 (-(Int.tmod x 10)) = -(Int.tmod x 10) := w64 (by omega) (by omega)
        simp only [spec_Decimal.l0, hz, if_false, c, if_true, e]
        rw [spec_l01Figure_ev _ (by omega) (by omega)]
        simp only [Option.bind_some]
        exact hlast _ (by omega)
      · simp only [spec_Decimal.l0, hz, if_false, c]
        rw [spec_l01Figure_ev _ (by omega) (by omega)]
        simp only [Option.bind_some]
        exact hlast _ (by omega)
theorem spec_Decimal_ev (n : Int) (h0 : -9223372036854775808 ≤ n) (h1 : n ≤ 9223372036854775807) : Ev (fun k => spec_Decimal.f k n) ⟨(Lib.itoa n).toArray⟩ := by
  by_cases hz : n = 0
  · subst hz
    have e : Lib.itoa 0 = [48] := by
      rw [Lib.itoa, if_neg (by decide), show (0 : Int).toNat = 0 from rfl, Lib.decDigits, dif_pos (by decide)]; rfl
    simp only [spec_Decimal.f, if_true, e]
    exact Ev.now _
  · have key := spec_Decimal_l0 (decide (n < 0)) 20 n ⟨#[]⟩ (by omega) h0 h1 (by decide)
    have hn : n.natAbs ≠ 0 := by omega
    rw [decU_eq _ _ hn] at key
    have e0 : ∀ l : List UInt8, (⟨l.toArray⟩ : ByteArray) ++ (⟨#[]⟩ : ByteArray) = ⟨l.toArray⟩ := fun l => by rw [show (⟨#[]⟩ : ByteArray) = ⟨([] : List UInt8).toArray⟩ from rfl, two_str, List.append_nil]
    rw [e0] at key
    simp only [spec_Decimal.f, hz, if_false]
    by_cases c : n < 0
    · have e1 : Lib.itoa n = [45] ++ Lib.decDigits n.natAbs := by rw [Lib.itoa, if_pos c]; rfl
      rw [e1, ← two_str]
      simpa [c] using key
    · have e1 : Lib.itoa n = Lib.decDigits n.natAbs := by rw [Lib.itoa, if_neg c, show n.toNat = n.natAbs by omega]
      rw [e1]
      simpa [c] using key

theorem spec_l01New_l0 (l : List Int) (hl : l.length ≤ 140737488355328) : ∀ (d : Nat) (i h : Int), 0 ≤ i → i + d = l.length → ∃ g : Int, Ev (fun k => spec_l01New.l0 k l h i) (l, 0, g) := by
  intro d
  induction d with
  | zero =>
    intro i h h0 hd
    refine ⟨h, ev_succ ?_⟩
    have c : ¬ i < (l.length : Int) := by omega
    simp only [spec_l01New.l0, c, if_false]
    exact Ev.now _
  | succ d ih =>
    intro i h h0 hd
    have c : i < (l.length : Int) := by omega
    by_cases c2 : i < 4000
    · obtain ⟨g, hg⟩ := ih (i + 1) (Go.bits .and .i64 (wrap64 ((wrap64 ((wrap64 (h * 131)) + (wrap64 (rd l i)))) + 7)) 1073741823) (by omega) (by omega)
      refine ⟨g, ev_succ ?_⟩
      have e : wrap64 (i + 1) = i + 1 := w64 (by omega) (by omega)
      simp only [spec_l01New.l0, c, c2, h0, if_true, e]
      exact hg
    · refine ⟨h, ev_succ ?_⟩
      simp only [spec_l01New.l0, c, c2, if_true, if_false]
      exact Ev.now _
theorem spec_l01New_ev (l : List Int) (hl : l.length ≤ 140737488355328) : ∃ g : Int, Ev (fun k => spec_l01New.f k l) (l, 0, g) := by
  obtain ⟨g, hg⟩ := spec_l01New_l0 l hl l.length 0 (wrap64 (37401 + (l.length : Int))) (by omega) (by omega)
  exact ⟨g, by simp only [spec_l01New.f]; exact hg⟩
theorem spec_l01Byte_ev (s : List Int) (i h : Int) (hi : 0 ≤ i ∧ i ≤ s.length) (hs : s.length ≤ 140737488355328) : ∃ x j g, spec_l01Byte.f s i h = some (x, j, g) ∧ (0 ≤ x ∧ x ≤ 255) ∧ 0 ≤ j ∧ j ≤ (s.length : Int) := by
  by_cases c : i < (s.length : Int)
  · have e : wrap64 (i + 1) = i + 1 := w64 (by omega) (by omega)
    refine ⟨_, i + 1, _, by simp only [spec_l01Byte.f, c, hi.1, if_true, e]; rfl, and255 _, by omega, by omega⟩
  · refine ⟨_, i, _, by simp only [spec_l01Byte.f, c, if_false]; rfl, and255 _, hi⟩
theorem spec_l01Below_ev (s : List Int) (i h n : Int) (hi : 0 ≤ i ∧ i ≤ s.length) (hs : s.length ≤ 140737488355328) : ∃ x j g, spec_l01Below.f s i h n = some (x, j, g) ∧ (n ≤ 0 → x = 0) ∧ (0 < n → 0 ≤ x ∧ x < n) ∧ 0 ≤ j ∧ j ≤ (s.length : Int) := by
  by_cases c1 : n ≤ 0
  · exact ⟨0, i, h, by simp only [spec_l01Below.f, c1, if_true], fun _ => rfl, fun h => by omega, hi⟩
  have c3 : ¬ n = 0 := by omega
  by_cases c2 : n ≤ 256
  · obtain ⟨x, j, g, e, hx, hj⟩ := spec_l01Byte_ev s i h hi hs
    refine ⟨Int.tmod x n, j, g, by simp only [spec_l01Below.f, c1, c2, c3, if_true, if_false, e, Option.bind_some], fun h => absurd h c1, fun hn => tmod_in hx.1 hn, hj⟩
  · obtain ⟨x1, j1, g1, e1, hx1, hj1⟩ := spec_l01Byte_ev s i h hi hs
    obtain ⟨x2, j2, g2, e2, hx2, hj2⟩ := spec_l01Byte_ev s j1 g1 hj1 hs
    obtain ⟨x3, j3, g3, e3, hx3, hj3⟩ := spec_l01Byte_ev s j2 g2 hj2 hs
    obtain ⟨x4, j4, g4, e4, hx4, hj4⟩ := spec_l01Byte_ev s j3 g3 hj3 hs
    have f1 : wrap64 (x1 * 16777216) = x1 * 16777216 := w64 (by omega) (by omega)
    have f2 : wrap64 (x2 * 65536) = x2 * 65536 := w64 (by omega) (by omega)
    have f3 : wrap64 (x3 * 256) = x3 * 256 := w64 (by omega) (by omega)
    have f4 : wrap64 (x1 * 16777216 + x2 * 65536) = x1 * 16777216 + x2 * 65536 := w64 (by omega) (by omega)
    have f5 : wrap64 (x1 * 16777216 + x2 * 65536 + x3 * 256) = x1 * 16777216 + x2 * 65536 + x3 * 256 := w64 (by omega) (by omega)
    have f6 : wrap64 (x1 * 16777216 + x2 * 65536 + x3 * 256 + x4) = x1 * 16777216 + x2 * 65536 + x3 * 256 + x4 := w64 (by omega) (by omega)
    refine ⟨Int.tmod (x1 * 16777216 + x2 * 65536 + x3 * 256 + x4) n, j4, g4, by simp only [spec_l01Below.f, c1, c2, c3, if_false, e1, e2, e3, e4, Option.bind_some, f1, f2, f3, f4, f5, f6], fun h => absurd h c1, fun hn => tmod_in (by omega) hn, hj4⟩

theorem named_size (x : Int) (h : 0 ≤ x ∧ x < 8) : 1 ≤ (rdOf ByteArray.empty [(⟨#[97]⟩ : ByteArray), (⟨#[98]⟩ : ByteArray), (⟨#[99]⟩ : ByteArray), (⟨#[106, 48]⟩ : ByteArray), (⟨#[106, 49]⟩ : ByteArray), (⟨#[106, 43]⟩ : ByteArray), (⟨#[115, 48]⟩ : ByteArray), (⟨#[115, 43]⟩ : ByteArray)] x).size ∧
    (rdOf ByteArray.empty [(⟨#[97]⟩ : ByteArray), (⟨#[98]⟩ : ByteArray), (⟨#[99]⟩ : ByteArray), (⟨#[106, 48]⟩ : ByteArray), (⟨#[106, 49]⟩ : ByteArray), (⟨#[106, 43]⟩ : ByteArray), (⟨#[115, 48]⟩ : ByteArray), (⟨#[115, 43]⟩ : ByteArray)] x).size ≤ 8 := by
  have h8 : x = 0 ∨ x = 1 ∨ x = 2 ∨ x = 3 ∨ x = 4 ∨ x = 5 ∨ x = 6 ∨ x = 7 := by omega
  rcases h8 with rfl | rfl | rfl | rfl | rfl | rfl | rfl | rfl <;> decide
theorem spec_l03Named_ev (s : List Int) (i h : Int) (hi : 0 ≤ i ∧ i ≤ s.length) (hs : s.length ≤ 140737488355328) : ∃ t j g, spec_l03Named.f s i h = some (t, j, g) ∧ (1 ≤ t.size ∧ t.size ≤ 8) ∧ 0 ≤ j ∧ j ≤ (s.length : Int) := by
  obtain ⟨x, j, g, e, _, hx, hj⟩ := spec_l01Below_ev s i h 8 hi hs
  have hx := hx (by decide)
  refine ⟨_, j, g, ?_, named_size x hx, hj⟩
  have e8 : (([(⟨#[97]⟩ : ByteArray), (⟨#[98]⟩ : ByteArray), (⟨#[99]⟩ : ByteArray), (⟨#[106, 48]⟩ : ByteArray), (⟨#[106, 49]⟩ : ByteArray), (⟨#[106, 43]⟩ : ByteArray), (⟨#[115, 48]⟩ : ByteArray), (⟨#[115, 43]⟩ : ByteArray)] : List ByteArray).length : Int) = 8 := rfl
  simp only [spec_l03Named.f, spec_l01Pick.f, e8, e, Option.bind_some, hx.1, hx.2, if_true]

theorem spec_l01PickInt_ev (s : List Int) (i h : Int) (xs : List Int) (hx : 0 < (xs.length : Int)) (hi : 0 ≤ i ∧ i ≤ s.length) (hs : s.length ≤ 140737488355328) : ∃ x j g, spec_l01PickInt.f s i h xs = some (x, j, g) ∧ 0 ≤ j ∧ j ≤ (s.length : Int) := by
  obtain ⟨x, j, g, e, _, hb, hj⟩ := spec_l01Below_ev s i h (xs.length : Int) hi hs
  have hb := hb hx
  exact ⟨rd xs x, j, g, by simp only [spec_l01PickInt.f, e, Option.bind_some, hb.1, hb.2, if_true], hj⟩

theorem spec_l01Long_l0 (n x : Int) (hn : n ≤ 1048576) : ∀ (d : Nat) (i : Int) (acc : List Int), 0 ≤ i → i + d = n → (acc.length : Int) = n →
    ∃ t, Ev (fun k => spec_l01Long.l0 k n x acc i) t ∧ (t.size : Int) = n := by
  intro d
  induction d with
  | zero =>
    intro i acc h0 hd hl
    refine ⟨strOfNums acc, ev_succ ?_, by rw [str_len]; exact hl⟩
    have c : ¬ i < n := by omega
    simp only [spec_l01Long.l0, c, if_false]
    exact Ev.now _
  | succ d ih =>
    intro i acc h0 hd hl
    have c : i < n := by omega
    have c2 : i < (acc.length : Int) := by omega
    obtain ⟨t, hp, hp2⟩ := ih (i + 1) (acc.set i.toNat x) (by omega) (by omega) (by rw [List.length_set]; exact hl)
    refine ⟨t, ev_succ ?_, hp2⟩
    have e1 : wrap64 (i + 1) = i + 1 := w64 (by omega) (by omega)
    simp only [spec_l01Long.l0, c, c2, h0, if_true, e1]
    exact hp
theorem spec_l01Long_ev (n x : Int) (h0 : 0 ≤ n) (hn : n ≤ 1048576) : ∃ t, Ev (fun k => spec_l01Long.f k n x) t ∧ (t.size : Int) = n := by
  obtain ⟨t, hp, hp2⟩ := spec_l01Long_l0 n x hn n.toNat 0 (List.replicate n.toNat 0) (by omega) (by omega) (by rw [List.length_replicate]; omega)
  refine ⟨t, ?_, hp2⟩
  have c : n.toNat ≤ 281474976710656 := by omega
  simp only [spec_l01Long.f, h0, c, if_true]
  exact hp

theorem spec_l01Text_l0 (s : List Int) (hs : s.length ≤ 140737488355328) (n : Int) (hn : n ≤ 5000) : ∀ (d : Nat) (i : Int) (acc : List Int) (j g : Int), 0 ≤ i → i + d = n → (acc.length : Int) = i → 0 ≤ j ∧ j ≤ (s.length : Int) →
    ∃ t j2 g2, Ev (fun k => spec_l01Text.l0 k n acc i s j g) (t, j2, g2) ∧ (t.size : Int) = n ∧ 0 ≤ j2 ∧ j2 ≤ (s.length : Int) := by
  intro d
  induction d with
  | zero =>
    intro i acc j g h0 hd hl hj
    refine ⟨strOfNums acc, j, g, ev_succ ?_, by rw [str_len]; omega, hj⟩
    have c : ¬ i < n := by omega
    simp only [spec_l01Text.l0, c, if_false]
    exact Ev.now _
  | succ d ih =>
    intro i acc j g h0 hd hl hj
    have c : i < n := by omega
    obtain ⟨x, j2, g2, e, _, hj2⟩ := spec_l01Byte_ev s j g hj hs
    obtain ⟨t, j3, g3, hp, hp2⟩ := ih (i + 1) (acc ++ [x % 256]) j2 g2 (by omega) (by omega) (by rw [List.length_append]; simp; omega) hj2
    refine ⟨t, j3, g3, ev_succ ?_, hp2⟩
    have e1 : wrap64 (i + 1) = i + 1 := w64 (by omega) (by omega)
    have c2 : acc.length < 140737488355328 := by omega
    simp only [spec_l01Text.l0, c, if_true, e, Option.bind_some, c2, e1]
    exact hp
theorem spec_l01Text_ev (s : List Int) (i h n : Int) (hi : 0 ≤ i ∧ i ≤ s.length) (hs : s.length ≤ 140737488355328) (hn : 0 ≤ n) : ∃ t j g, Ev (fun k => spec_l01Text.f k s i h n) (t, j, g) ∧ (t.size : Int) ≤ n ∧ (t.size : Int) ≤ 5000 ∧ 0 ≤ j ∧ j ≤ (s.length : Int) := by
  by_cases c : n > 5000
  · obtain ⟨t, j, g, hp, h1, h2⟩ := spec_l01Text_l0 s hs 5000 (by omega) 5000 0 [] i h (by omega) (by omega) rfl hi
    refine ⟨t, j, g, ?_, by omega, by omega, h2⟩
    simp only [spec_l01Text.f, c, if_true]
    apply ev_succ
    simp only [spec_l01Text.j0]
    exact hp
  · obtain ⟨t, j, g, hp, h1, h2⟩ := spec_l01Text_l0 s hs n (by omega) n.toNat 0 [] i h (by omega) (by omega) rfl hi
    refine ⟨t, j, g, ?_, by omega, by omega, h2⟩
    simp only [spec_l01Text.f, c, if_false]
    apply ev_succ
    simp only [spec_l01Text.j0]
    exact hp

def pFile (f : S66) : Bool := decide (1 ≤ f.f0.size ∧ f.f0.size ≤ 8) && decide (f.f1.size ≤ 20000) && decide (0 ≤ f.f2 ∧ f.f2 ≤ f.f1.size)
def pDiskL : Option ByteArray → List (S66) → Bool
  | _, [] => true
  | none, f :: l => pFile f && pDiskL (some f.f0) l
  | some q, f :: l => pFile f && Op.bytesLess q.toList f.f0.toList && pDiskL (some f.f0) l
def prevN (l : List (S66)) (i : Int) : Option ByteArray := if i = 0 then none else some (rd_T66 l (i - 1)).f0
def pDiskOk (l : List (S66)) : Bool := decide (l.length ≤ 30) && pDiskL none l
theorem drop_file (l : List (S66)) (i : Int) (h0 : 0 ≤ i) (h1 : i < l.length) : l.drop i.toNat = rd_T66 l i :: l.drop (i + 1).toNat := drop_get l i h0 h1 z66
theorem prevN_next (l : List (S66)) (i : Int) (h : 0 ≤ i) : prevN l (i + 1) = some (rd_T66 l i).f0 := by
  rw [prevN, if_neg (by omega), show i + 1 - 1 = i by omega]
theorem pDiskL_bad {o : Option ByteArray} {f : S66} {l : List (S66)} (h : pFile f = false) : pDiskL o (f :: l) = false := by
  cases o <;> simp [pDiskL, h]

def pKeptL (l : List (S66)) : Bool := l.all fun f => decide (f.f2 = f.f1.size)
def pAllKept (l : List (S66)) : Bool := pKeptL l && pDiskOk l
theorem pKeptL_cons (f : S66) (l : List (S66)) : pKeptL (f :: l) = (decide (f.f2 = f.f1.size) && pKeptL l) := by simp [pKeptL]
theorem pDiskL_files : ∀ (l : List (S66)) (o : Option ByteArray), pDiskL o l = true → ∀ f ∈ l, pFile f = true := by
  intro l
  induction l with
  | nil => intro o _ f hf; simp at hf
  | cons g l ih =>
    intro o h f hf
    have hg : pFile g = true ∧ pDiskL (some g.f0) l = true := by
      cases o <;> simp only [pDiskL, Bool.and_eq_true] at h
      · exact h
      · exact ⟨h.1.1, h.2⟩
    rcases List.mem_cons.1 hf with rfl | hf
    · exact hg.1
    · exact ih _ hg.2 f hf
theorem pDiskOk_files {l : List (S66)} (h : pDiskOk l = true) : l.length ≤ 30 ∧ ∀ f ∈ l, (1 ≤ f.f0.size ∧ f.f0.size ≤ 8) ∧ f.f1.size ≤ 20000 ∧ 0 ≤ f.f2 ∧ f.f2 ≤ f.f1.size := by
  simp only [pDiskOk, Bool.and_eq_true, decide_eq_true_eq] at h
  refine ⟨h.1, fun f hf => ?_⟩
  have := pDiskL_files l none h.2 f hf
  simp only [pFile, Bool.and_eq_true, decide_eq_true_eq] at this
  exact ⟨this.1.1, this.1.2, this.2⟩

def ltF (a b : S66) : Bool := Op.bytesLess a.f0.toList b.f0.toList
def pPut (l : List (S66)) (f : S66) : List (S66) := l.filter (fun x => ltF x f) ++ (f :: l.filter (fun x => ltF f x))
theorem pPut_len (l : List (S66)) (f : S66) : (pPut l f).length ≤ l.length + 1 := by
  have := filter_two (fun x => ltF x f) (fun x => ltF f x) (fun x h => bl_asymm h) l
  simp only [pPut, List.length_append, List.length_cons]
  omega
theorem pDiskL_iff (l : List (S66)) : ∀ o : Option ByteArray, pDiskL o l = true ↔ ((∀ f ∈ l, pFile f = true) ∧ l.Pairwise (fun a b => ltF a b = true) ∧ ∀ q, o = some q → ∀ f ∈ l, Op.bytesLess q.toList f.f0.toList = true) := by
  induction l with
  | nil =>
    intro o
    cases o <;> simp [pDiskL]
  | cons x l ih =>
    intro o
    have hx := ih (some x.f0)
    have e1 : pDiskL o (x :: l) = true ↔ (pFile x = true ∧ (∀ q, o = some q → Op.bytesLess q.toList x.f0.toList = true) ∧ pDiskL (some x.f0) l = true) := by
      cases o with
      | none => simp [pDiskL]
      | some q => simp [pDiskL, and_assoc]
    rw [e1, hx]
    constructor
    · rintro ⟨h1, h2, h3, h4, h5⟩
      refine ⟨fun f hf => ?_, List.pairwise_cons.2 ⟨fun f hf => h5 _ rfl f hf, h4⟩, fun q hq f hf => ?_⟩
      · rcases List.mem_cons.1 hf with rfl | hf
        · exact h1
        · exact h3 f hf
      · rcases List.mem_cons.1 hf with rfl | hf
        · exact h2 q hq
        · exact bl_trans _ _ _ (h2 q hq) (h5 _ rfl f hf)
    · rintro ⟨h1, h2, h3⟩
      rw [List.pairwise_cons] at h2
      exact ⟨h1 x List.mem_cons_self, fun q hq => h3 q hq x List.mem_cons_self, fun f hf => h1 f (List.mem_cons_of_mem _ hf), h2.2, fun q hq f hf => by cases hq; exact h2.1 f hf⟩
theorem pPut_ok {l : List (S66)} {f : S66} (h : pDiskL none l = true) (hf : pFile f = true) : pDiskL none (pPut l f) = true := by
  rw [pDiskL_iff] at h ⊢
  refine ⟨fun x hx => ?_, ?_, fun q hq => by cases hq⟩
  · simp only [pPut, List.mem_append, List.mem_cons, List.mem_filter] at hx
    rcases hx with hx | rfl | hx
    · exact h.1 x hx.1
    · exact hf
    · exact h.1 x hx.1
  · unfold pPut
    rw [List.pairwise_append]
    refine ⟨h.2.1.filter _, List.pairwise_cons.2 ⟨fun x hx => (List.mem_filter.1 hx).2, h.2.1.filter _⟩, fun a ha b hb => ?_⟩
    have ha := (List.mem_filter.1 ha).2
    rcases List.mem_cons.1 hb with rfl | hb
    · exact ha
    · exact bl_trans _ _ _ ha (List.mem_filter.1 hb).2

theorem spec_l03Put_l1 (l : List (S66)) (f : S66) (hl : l.length ≤ 1048576) : ∀ (d : Nat) (i : Int) (acc R : List (S66)), 0 ≤ i → i + d = l.length → (acc.length : Int) ≤ i + 1048577 → acc ++ (l.drop i.toNat).filter (fun x => ltF f x) = R →
    Ev (fun k => spec_l03Put.l1 k i l f.f0 f.f1 f.f2 acc) R := by
  intro d
  induction d with
  | zero =>
    intro i acc R h0 h ha hR
    apply ev_succ
    have c : ¬ i < (l.length : Int) := by omega
    simp only [spec_l03Put.l1, c, if_false]
    rw [List.drop_of_length_le (by omega), List.filter_nil, List.append_nil] at hR
    exact ev_some hR
  | succ d ih =>
    intro i acc R h0 h ha hR
    have c : i < (l.length : Int) := by omega
    have ei : wrap64 (i + 1) = i + 1 := w64 (by omega) (by omega)
    have hc : acc.length < 3518437208883 := by omega
    rw [drop_file l i h0 c, List.filter_cons] at hR
    apply ev_succ
    simp only [spec_l03Put.l1, c, h0, if_true, ei]
    by_cases hq : Op.bytesLess f.f0.toList (rd_T66 l i).f0.toList = true
    · rw [if_pos (show ltF f (rd_T66 l i) = true from hq)] at hR
      simp only [hq, if_true, hc]
      exact ih (i + 1) (acc ++ [rd_T66 l i]) R (by omega) (by omega) (by rw [List.length_append, List.length_singleton]; omega) (by rw [List.append_assoc]; exact hR)
    · rw [if_neg (show ¬ ltF f (rd_T66 l i) = true from hq)] at hR
      simp only [hq, if_false]
      exact ih (i + 1) acc R (by omega) (by omega) (by omega) hR
theorem spec_l03Put_l0 (l : List (S66)) (f : S66) (hl : l.length ≤ 1048576) : ∀ (d : Nat) (i : Int) (acc R : List (S66)), 0 ≤ i → i + d = l.length → (acc.length : Int) ≤ i → (acc ++ (l.drop i.toNat).filter (fun x => ltF x f)) ++ (f :: l.filter (fun x => ltF f x)) = R →
    Ev (fun k => spec_l03Put.l0 k i l f.f0 f.f1 f.f2 acc) R := by
  intro d
  induction d with
  | zero =>
    intro i acc R h0 h ha hR
    apply ev_succ
    have c : ¬ i < (l.length : Int) := by omega
    have hc : acc.length < 3518437208883 := by omega
    simp only [spec_l03Put.l0, c, if_false, hc, if_true]
    rw [List.drop_of_length_le (by omega), List.filter_nil, List.append_nil] at hR
    exact spec_l03Put_l1 l f hl l.length 0 (acc ++ [f]) R (by omega) (by omega) (by rw [List.length_append, List.length_singleton]; omega) (by rw [List.append_assoc]; exact hR)
  | succ d ih =>
    intro i acc R h0 h ha hR
    have c : i < (l.length : Int) := by omega
    have ei : wrap64 (i + 1) = i + 1 := w64 (by omega) (by omega)
    have hc : acc.length < 3518437208883 := by omega
    rw [drop_file l i h0 c, List.filter_cons] at hR
    apply ev_succ
    simp only [spec_l03Put.l0, c, h0, if_true, ei]
    by_cases hq : Op.bytesLess (rd_T66 l i).f0.toList f.f0.toList = true
    · rw [if_pos (show ltF (rd_T66 l i) f = true from hq)] at hR
      simp only [hq, if_true, hc]
      exact ih (i + 1) (acc ++ [rd_T66 l i]) R (by omega) (by omega) (by rw [List.length_append, List.length_singleton]; omega) (by rw [List.append_assoc acc]; exact hR)
    · rw [if_neg (show ¬ ltF (rd_T66 l i) f = true from hq)] at hR
      simp only [hq, if_false]
      exact ih (i + 1) acc R (by omega) (by omega) (by omega) hR
theorem spec_l03Put_ev (l : List (S66)) (f : S66) (hl : l.length ≤ 1048576) : Ev (fun k => spec_l03Put.f k l f.f0 f.f1 f.f2) (pPut l f) := by
  simp only [spec_l03Put.f]
  exact spec_l03Put_l0 l f hl l.length 0 [] _ (by omega) (by omega) (by simp) (by simp [pPut])

theorem nDigits_le (u : Nat) : Lib.nDigits u ≤ u + 1 := by
  induction u using Nat.strongRecOn with
  | ind u ih =>
    by_cases c : u < 10
    · rw [Lib.nDigits_small c]; omega
    · rw [Lib.nDigits_big c]
      have := ih (u / 10) (by omega)
      omega
theorem itoa_size (n : Int) (h0 : 0 ≤ n) (h1 : n ≤ 1000000) : (⟨(Lib.itoa n).toArray⟩ : ByteArray).size ≤ 1000001 := by
  show (Lib.itoa n).toArray.size ≤ 1000001
  rw [List.size_toArray, Lib.itoa, if_neg (by omega), Lib.decDigits_length]
  have := nDigits_le n.toNat
  omega
theorem spec_l01Pick_ev (s : List Int) (i h : Int) (xs : List ByteArray) (hx : 0 < (xs.length : Int)) (hi : 0 ≤ i ∧ i ≤ s.length) (hs : s.length ≤ 140737488355328) : ∃ x j g, spec_l01Pick.f s i h xs = some (x, j, g) ∧ 0 ≤ j ∧ j ≤ (s.length : Int) := by
  obtain ⟨x, j, g, e, _, hb, hj⟩ := spec_l01Below_ev s i h (xs.length : Int) hi hs
  have hb := hb hx
  exact ⟨rdOf ByteArray.empty xs x, j, g, by simp only [spec_l01Pick.f, e, Option.bind_some, hb.1, hb.2, if_true], hj⟩
theorem spec_l03Disk_l1 (s : List Int) (hs : s.length ≤ 140737488355328) : ∀ (d : Nat) (i : Int) (acc : List (S66)) (j g : Int), 0 ≤ i → i + d = 31 → (acc.length : Int) ≤ i → 0 ≤ j ∧ j ≤ (s.length : Int) →
    ∃ (r : List (S66)) (j' g' : Int), Ev (fun k => spec_l03Disk.l1 k i s j g acc) (r, j', g') ∧ r.length ≤ 31 ∧ 0 ≤ j' ∧ j' ≤ (s.length : Int) := by
  intro d
  induction d using Nat.strongRecOn with
  | ind d ih =>
    intro i acc j g h0 hd hl hj
    obtain ⟨x, j1, g1, e, _, hx, hj1⟩ := spec_l01Below_ev s j g 2 hj hs
    have hx := hx (by decide)
    have e0 : wrap64 (30 + x) = 30 + x := w64 (by omega) (by omega)
    by_cases c : i < 30 + x
    · have e1 : wrap64 (100 + i) = 100 + i := w64 (by omega) (by omega)
      have e2 : wrap64 (i + 1) = i + 1 := w64 (by omega) (by omega)
      have hD := spec_Decimal_ev (100 + i) (by omega) (by omega)
      have hz := itoa_size (100 + i) (by omega) (by omega)
      generalize (⟨(Lib.itoa (100 + i)).toArray⟩ : ByteArray) = t at hD hz
      obtain ⟨r, j', g', hr, hr2⟩ := ih (d - 1) (by omega) (i + 1) (acc ++ [(⟨(⟨#[102]⟩ : ByteArray) ++ t, (⟨#[]⟩ : ByteArray), 0⟩ : S66)]) j1 g1 (by omega) (by omega) (by rw [List.length_append, List.length_singleton]; omega) hj1
      refine ⟨r, j', g', ev_succ ?_, hr2⟩
      have c1 : 1 + t.size ≤ 9223372036854775807 := by omega
      have c2 : acc.length < 3518437208883 := by omega
      simp only [spec_l03Disk.l1, e, Option.bind_some, e0, c, if_true, e1, e2]
      refine Ev.bind hD ?_
      simp only [c1, c2, if_true]
      exact hr
    · refine ⟨acc, j1, g1, ev_succ ?_, by omega, hj1⟩
      simp only [spec_l03Disk.l1, e, Option.bind_some, e0, c, if_false]
      exact Ev.now _
theorem spec_l03Disk_l0 (s : List Int) (hs : s.length ≤ 140737488355328) : ∀ (d : Nat) (i : Int) (acc : List (S66)) (j g : Int), 0 ≤ i → i + d = 6 → (acc.length : Int) ≤ i → 0 ≤ j ∧ j ≤ (s.length : Int) →
    ∃ (r : List (S66)) (j' g' : Int), Ev (fun k => spec_l03Disk.l0 k i s j g acc) (r, j', g') ∧ r.length ≤ 31 ∧ 0 ≤ j' ∧ j' ≤ (s.length : Int) := by
  intro d
  induction d using Nat.strongRecOn with
  | ind d ih =>
    intro i acc j g h0 hd hl hj
    obtain ⟨x, j1, g1, e, _, hx, hj1⟩ := spec_l01Below_ev s j g 6 hj hs
    have hx := hx (by decide)
    by_cases c : i < x
    · obtain ⟨y, j2, g2, e2, _, hy, hj2⟩ := spec_l01Below_ev s j1 g1 9 hj1 hs
      have hy := hy (by decide)
      obtain ⟨t, j3, g3, ht, hts, _, hj3⟩ := spec_l01Text_ev s j2 g2 y hj2 hs hy.1
      obtain ⟨nm, j4, g4, e4, hn, hj4⟩ := spec_l03Named_ev s j3 g3 hj3 hs
      obtain ⟨kp, j5, g5, e6, _, hk, hj5⟩ := spec_l01Below_ev s j4 g4 ((t.size : Int) + 1) hj4 hs
      have hlen := pPut_len acc (⟨nm, t, kp⟩ : S66)
      obtain ⟨r, j', g', hr, hr2⟩ := ih (d - 1) (by omega) (i + 1) (pPut acc ⟨nm, t, kp⟩) j5 g5 (by omega) (by omega) (by omega) hj5
      refine ⟨r, j', g', ev_succ ?_, hr2⟩
      have hpl : acc.length ≤ 1048576 := by omega
      have e5 : wrap64 ((t.size : Int) + 1) = t.size + 1 := w64 (by omega) (by omega)
      have ei : wrap64 (i + 1) = i + 1 := w64 (by omega) (by omega)
      simp only [spec_l03Disk.l0, e, Option.bind_some, c, if_true, e2]
      refine Ev.bind ht ?_
      simp only [e4, Option.bind_some, e5, e6, ei]
      refine Ev.bind (spec_l03Put_ev acc (⟨nm, t, kp⟩ : S66) hpl) ?_
      exact hr
    by_cases c0 : (acc.length : Int) = 0
    · refine ⟨acc, j1, g1, ev_succ ?_, by omega, hj1⟩
      simp only [spec_l03Disk.l0, e, Option.bind_some, c, if_false, c0, if_true]
      exact Ev.now _
    obtain ⟨y, j2, g2, e2, _, hy, hj2⟩ := spec_l01Below_ev s j1 g1 (acc.length : Int) hj1 hs
    have hy := hy (by omega)
    obtain ⟨z, j3, g3, e3, _, _, hj3⟩ := spec_l01Below_ev s j2 g2 40 hj2 hs
    by_cases z0 : z = 0
    · obtain ⟨v, j4, g4, e4, hj4⟩ := spec_l01PickInt_ev s j3 g3 ([(-1), wrap64 ((((rd_T66 acc y).f1).size : Int) + 1)] : List Int) (by simp) hj3 hs
      refine ⟨acc.set y.toNat (⟨(rd_T66 acc y).f0, (rd_T66 acc y).f1, v⟩ : S66), j4, g4, ev_succ ?_, by rw [List.length_set]; omega, hj4⟩
      simp only [spec_l03Disk.l0, e, Option.bind_some, c, if_false, c0, e2, e3, z0, if_true, hy.1, hy.2, e4]
      exact Ev.now _
    by_cases z1 : z = 1
    · refine ⟨acc ++ [(⟨(rd_T66 acc y).f0, (rd_T66 acc y).f1, (rd_T66 acc y).f2⟩ : S66)], j3, g3, ev_succ ?_, by rw [List.length_append, List.length_singleton]; omega, hj3⟩
      have c2 : acc.length < 3518437208883 := by omega
      simp only [spec_l03Disk.l0, e, Option.bind_some, c, if_false, c0, e2, e3, z0]
      simp only [z1, if_true, hy.1, hy.2, c2]
      exact Ev.now _
    by_cases z2 : z = 2
    · obtain ⟨v, j4, g4, e4, hj4⟩ := spec_l01Pick_ev s j3 g3 ([(⟨#[]⟩ : ByteArray), (⟨#[49, 50, 51, 52, 53, 54, 55, 56]⟩ : ByteArray), (⟨#[49, 50, 51, 52, 53, 54, 55, 56, 57]⟩ : ByteArray)] : List ByteArray) (by decide) hj3 hs
      refine ⟨acc.set y.toNat (⟨v, (rd_T66 acc y).f1, (rd_T66 acc y).f2⟩ : S66), j4, g4, ev_succ ?_, by rw [List.length_set]; omega, hj4⟩
      simp only [spec_l03Disk.l0, e, Option.bind_some, c, if_false, c0, e2, e3, z0, z1]
      simp only [z2, if_true, hy.1, hy.2, e4, Option.bind_some]
      exact Ev.now _
    by_cases z3 : z = 3
    · obtain ⟨r, j', g', hr, hr2⟩ := spec_l03Disk_l1 s hs 31 0 [] j3 g3 (by omega) (by omega) (by simp) hj3
      refine ⟨r, j', g', ev_succ ?_, hr2⟩
      simp only [spec_l03Disk.l0, e, Option.bind_some, c, if_false, c0, e2, e3, z0, z1, z2]
      simp only [z3, if_true]
      exact hr
    by_cases z4 : z = 4
    · obtain ⟨v, j4, g4, e4, _, hv, hj4⟩ := spec_l01Below_ev s j3 g3 3 hj3 hs
      have hv := hv (by decide)
      have e5 : wrap64 (19999 + v) = 19999 + v := w64 (by omega) (by omega)
      obtain ⟨t, ht, _⟩ := spec_l01Long_ev (19999 + v) 65 (by omega) (by omega)
      refine ⟨acc.set y.toNat (⟨(rd_T66 acc y).f0, t, (rd_T66 acc y).f2⟩ : S66), j4, g4, ev_succ ?_, by rw [List.length_set]; omega, hj4⟩
      simp only [spec_l03Disk.l0, e, Option.bind_some, c, if_false, c0, e2, e3, z0, z1, z2, z3]
      simp only [z4, if_true, e4, e5, Option.bind_some]
      refine Ev.bind ht ?_
      simp only [hy.1, hy.2, if_true]
      exact Ev.now _
    · refine ⟨acc, j3, g3, ev_succ ?_, by omega, hj3⟩
      simp only [spec_l03Disk.l0, e, Option.bind_some, c, if_false, c0, e2, e3, z0, z1, z2, z3, z4]
      exact Ev.now _

def pAtF (n : ByteArray) (l : List (S66)) (i : Nat) : Int := Lib.idxByFrom (fun (_ : S66) y => y.f0.toList == n.toList) z66 l i
theorem pAtF_nil (n : ByteArray) (i : Nat) : pAtF n [] i = -1 := rfl
theorem pAtF_cons (n : ByteArray) (f : S66) (l : List (S66)) (i : Nat) : pAtF n (f :: l) i = if (f.f0.toList == n.toList) = true then (i : Int) else pAtF n l (i + 1) := rfl
theorem pAtF_in (n : ByteArray) : ∀ (l : List (S66)) (i : Nat), pAtF n l i = -1 ∨ ((i : Int) ≤ pAtF n l i ∧ pAtF n l i < i + l.length) := by
  intro l
  induction l with
  | nil => intro i; exact Or.inl rfl
  | cons f l ih =>
    intro i
    rw [pAtF_cons]
    split
    · right; rw [List.length_cons]; omega
    · rcases ih (i + 1) with h | h
      · exact Or.inl h
      · right; rw [List.length_cons]; omega
def pAt (l : List (S66)) (n : ByteArray) : Int := pAtF n l 0
def pFileAt (l : List (S66)) (n : ByteArray) : ByteArray × Bool := if pAt l n < 0 then (⟨#[]⟩, false) else ((rd_T66 l (pAt l n)).f1, true)

def keepF (n : ByteArray) (y : S66) : Bool := !(y.f0.toList == n.toList)
def pWithout (l : List (S66)) (n : ByteArray) : List (S66) := l.filter (keepF n)
theorem pWithout_len (l : List (S66)) (n : ByteArray) : (pWithout l n).length ≤ l.length := List.length_filter_le _ _
theorem place_nil (n : ByteArray) : impl_withFile.place n [] = 0 := rfl
theorem place_cons (n : ByteArray) (y : S66) (r : List (S66)) : impl_withFile.place n (y :: r) = if Op.bytesLess y.f0.toList n.toList = true then impl_withFile.place n r + 1 else 0 := rfl
theorem put_cons_lt (f y : S66) (r : List (S66)) (h : Op.bytesLess y.f0.toList f.f0.toList = true) : impl_withFile.put f (y :: r) = y :: impl_withFile.put f r := by
  unfold impl_withFile.put
  rw [place_cons, if_pos h]
  rfl
theorem put_cons_ge (f y : S66) (r : List (S66)) (h : ¬ Op.bytesLess y.f0.toList f.f0.toList = true) : impl_withFile.put f (y :: r) = f :: y :: r := by
  unfold impl_withFile.put
  rw [place_cons, if_neg h]
  rfl
/-- On a disk in order, the two ways of putting a file in its place. -/
theorem put_eq (f : S66) : ∀ (l : List (S66)), l.Pairwise (fun a b => ltF a b = true) → impl_withFile.put f (pWithout l f.f0) = pPut l f
  | [], _ => rfl
  | y :: r, h => by
    obtain ⟨h1, h2⟩ := List.pairwise_cons.1 h
    have ih := put_eq f r h2
    unfold pWithout pPut at ih ⊢
    by_cases c1 : Op.bytesLess y.f0.toList f.f0.toList = true
    · have c2 : Op.bytesLess f.f0.toList y.f0.toList = false := bl_asymm c1
      have c3 : keepF f.f0 y = true := by
        unfold keepF
        rw [Bool.not_eq_true', beq_eq_false_iff_ne]
        intro e
        rw [e, bl_irrefl] at c1
        cases c1
      rw [List.filter_cons_of_pos (by exact c3), List.filter_cons_of_pos (by exact c1), List.filter_cons_of_neg (by unfold ltF; rw [c2]; decide), put_cons_lt f y _ c1, ih]
      rfl
    · have c1' : Op.bytesLess y.f0.toList f.f0.toList = false := by simpa using c1
      by_cases c3 : y.f0.toList = f.f0.toList
      · have c2 : Op.bytesLess f.f0.toList y.f0.toList = false := by rw [c3]; exact bl_irrefl _
        rw [List.filter_cons_of_neg (by unfold keepF; rw [c3]; simp), List.filter_cons_of_neg (by unfold ltF; rw [c1']; decide), List.filter_cons_of_neg (by unfold ltF; rw [c2]; decide)]
        exact ih
      · have c2 : Op.bytesLess f.f0.toList y.f0.toList = true := (by rcases bl_tri f.f0.toList y.f0.toList with h | h | h; exact h; exact absurd h.symm c3; exact absurd h c1)
        have k1 : ∀ x ∈ r, Op.bytesLess f.f0.toList x.f0.toList = true := fun x hx => bl_trans _ _ _ c2 (h1 x hx)
        have k2 : r.filter (fun x => ltF x f) = [] := List.filter_eq_nil_iff.2 (fun x hx => by unfold ltF; rw [bl_asymm (k1 x hx)]; decide)
        have k3 : r.filter (fun x => ltF f x) = r := List.filter_eq_self.2 (fun x hx => k1 x hx)
        have k4 : r.filter (keepF f.f0) = r := List.filter_eq_self.2 (fun x hx => by
          unfold keepF
          rw [Bool.not_eq_true', beq_eq_false_iff_ne]
          intro e
          have := k1 x hx
          rw [e, bl_irrefl] at this
          cases this)
        rw [List.filter_cons_of_pos (by unfold keepF; rw [Bool.not_eq_true', beq_eq_false_iff_ne]; exact c3), List.filter_cons_of_neg (by unfold ltF; rw [c1']; decide), List.filter_cons_of_pos (by exact c2), k2, k3, k4, put_cons_ge f y _ c1]
        rfl
theorem pDiskOk_pair {l : List (S66)} (h : pDiskOk l = true) : l.length ≤ 30 ∧ pDiskL none l = true ∧ l.Pairwise (fun a b => ltF a b = true) := by
  unfold pDiskOk at h
  rw [Bool.and_eq_true, decide_eq_true_eq] at h
  exact ⟨h.1, h.2, ((pDiskL_iff l none).1 h.2).2.1⟩
theorem pDiskOk_bad {l : List (S66)} {f : S66} (hm : f ∈ l) (hf : pFile f = false) : pDiskOk l = false := by
  unfold pDiskOk
  rw [Bool.and_eq_false_iff]
  right
  cases h : pDiskL none l with
  | false => rfl
  | true => rw [pDiskL_files l none h f hm] at hf; cases hf
theorem pPut_mem (l : List (S66)) (f : S66) : f ∈ pPut l f := by unfold pPut; simp
theorem pFile_name {f : S66} (h : ¬ (1 ≤ f.f0.size ∧ f.f0.size ≤ 8)) : pFile f = false := by unfold pFile; rw [decide_eq_false h]; rfl
theorem impl_withFile_eq (l : List (S66)) (f : S66) (hl : l.length < 1000000) (hp : l.Pairwise (fun a b => ltF a b = true)) : impl_withFile.f l f.f0 f.f1 f.f2 = some (pPut l f) := by
  unfold impl_withFile.f impl_withoutFile.f
  rw [if_pos hl, Option.bind_some]
  have := put_eq f l hp
  unfold pWithout at this
  exact congrArg some this
theorem impl_withoutFile_eq (l : List (S66)) (n : ByteArray) (hl : l.length < 1000000) : impl_withoutFile.f l n = some (pWithout l n) := by
  unfold impl_withoutFile.f
  rw [if_pos hl]
  rfl
/-- The file that an act is about: the one of its name, or a new one. -/
def pOf (l : List (S66)) (n : ByteArray) : S66 := if pAt l n < 0 then ⟨n, ⟨#[]⟩, 0⟩ else rd_T66 l (pAt l n)
def okOut (l : List (S66)) : List (S66) × Bool := if pDiskOk l = true then (l, true) else ([], false)
def pDoAct (l : List (S66)) (k : Int) (n t o : ByteArray) : List (S66) × Bool :=
  if pDiskOk l = true then
    (if k = 1 then (if o.toList = [] then okOut (pPut l ⟨(pOf l n).f0, (pOf l n).f1 ++ t, (pOf l n).f2⟩) else ([], false))
     else if pAt l n < 0 then ([], false)
     else if k = 2 then (if o.toList = [] ∧ t.toList = [] then okOut (pPut l ⟨(pOf l n).f0, (pOf l n).f1, (pOf l n).f1.size⟩) else ([], false))
     else if k = 3 then (if t.toList = [] ∧ (pOf l n).f2 = (pOf l n).f1.size ∧ ¬ o.toList = n.toList then okOut (pPut (pWithout l n) ⟨o, (pOf l n).f1, (pOf l n).f2⟩) else ([], false))
     else if k = 4 then (if o.toList = [] ∧ t.toList = [] then okOut (pWithout l n) else ([], false))
     else ([], false))
  else ([], false)
theorem pAt_get (l : List (S66)) (n : ByteArray) (h : ¬ pAt l n < 0) : 0 ≤ pAt l n ∧ pAt l n < (l.length : Int) := by
  have := pAtF_in n l 0
  unfold pAt at h ⊢
  omega
theorem rd_mem (l : List (S66)) (i : Int) (h0 : 0 ≤ i) (h1 : i < (l.length : Int)) : rd_T66 l i ∈ l := by
  have hlt : i.toNat < l.length := by omega
  unfold rd_T66
  rw [List.getD_eq_getElem?_getD, List.getElem?_eq_getElem hlt]
  exact List.getElem_mem hlt
theorem okOut_len (l : List (S66)) : (okOut l).1.length ≤ 30 := by
  unfold okOut
  split
  · rename_i h; exact (pDiskOk_pair h).1
  · exact Nat.zero_le _
theorem pDoAct_len (l : List (S66)) (k : Int) (n t o : ByteArray) : (pDoAct l k n t o).1.length ≤ 30 := by
  unfold pDoAct
  repeat' split
  all_goals first | exact okOut_len _ | exact Nat.zero_le _
theorem pAtF_name (n : ByteArray) : ∀ (l : List (S66)) (i : Nat), ¬ pAtF n l i < 0 → (rd_T66 l (pAtF n l i - i)).f0.toList = n.toList
  | [], i, h => absurd (by decide : (-1 : Int) < 0) h
  | f :: l, i, h => by
    rw [pAtF_cons] at h ⊢
    by_cases c : (f.f0.toList == n.toList) = true
    · rw [if_pos c, show ((i : Int) - (i : Int)) = 0 by omega]
      exact beq_iff_eq.1 c
    · rw [if_neg c] at h ⊢
      have ih := pAtF_name n l (i + 1) h
      have hin := (pAtF_in n l (i + 1)).resolve_left (fun e => h (by rw [e]; decide))
      rw [← ih]
      obtain ⟨m, hm⟩ : ∃ m : Nat, pAtF n l (i + 1) = ((i + 1 + m : Nat) : Int) := ⟨(pAtF n l (i + 1) - (i + 1)).toNat, by omega⟩
      rw [hm, show (((i + 1 + m : Nat) : Int) - (i : Int)) = ((m + 1 : Nat) : Int) by omega, show (((i + 1 + m : Nat) : Int) - ((i + 1 : Nat) : Int)) = (m : Int) by omega]
      unfold rd_T66
      rw [Int.toNat_natCast, Int.toNat_natCast]
      rfl
theorem pAt_name (l : List (S66)) (n : ByteArray) (h : ¬ pAt l n < 0) : (rd_T66 l (pAt l n)).f0.toList = n.toList := by
  have := pAtF_name n l 0 h
  rw [show (pAtF n l 0 - ((0 : Nat) : Int)) = pAtF n l 0 by omega] at this
  exact this

theorem spec_l01In_ev (a b c : Int) : Ev (fun _ => spec_l01In.f a b c) (decide (b ≤ a ∧ a ≤ c)) := by
  apply ev_const
  unfold spec_l01In.f
  by_cases h : a ≥ b
  · rw [if_pos h]; simp [show b ≤ a from h]
  · rw [if_neg h]; simp [show ¬ b ≤ a from h]

theorem spec_l03Name_ev (s : ByteArray) : Ev (fun _ => spec_l03Name.f s) (decide (1 ≤ s.size ∧ s.size ≤ 8)) := by
  simp only [spec_l03Name.f]
  refine Ev.bind (spec_l01In_ev _ _ _) ?_
  apply ev_some
  rw [decide_eq_decide]
  omega
theorem spec_DiskOk_l0 (l : List (S66)) (hl : l.length ≤ 1048576) : ∀ (d : Nat) (i : Int), 0 ≤ i → i + d = l.length → Ev (fun k => spec_DiskOk.l0 k i l) (pDiskL (prevN l i) (l.drop i.toNat)) := by
  intro d
  induction d with
  | zero =>
    intro i h0 h
    apply ev_succ
    have c : ¬ i < (l.length : Int) := by omega
    simp only [spec_DiskOk.l0, c, if_false]
    rw [List.drop_of_length_le (by omega)]
    cases prevN l i <;> exact Ev.now _
  | succ d ih =>
    intro i h0 h
    apply ev_succ
    have c : i < (l.length : Int) := by omega
    have e1 : wrap64 (i + 1) = i + 1 := w64 (by omega) (by omega)
    have e2 : wrap64 (i - 1) = i - 1 := w64 (by omega) (by omega)
    have hh := ih (i + 1) (by omega) (by omega)
    rw [prevN_next l i h0] at hh
    rw [drop_file l i h0 c]
    have k3 : i > 0 → 0 ≤ i - 1 ∧ i - 1 < (l.length : Int) := fun _ => by omega
    have hp0 : ¬ i > 0 → prevN l i = none := fun hi => by rw [prevN, if_pos (by omega)]
    have hp1 : i > 0 → prevN l i = some (rd_T66 l (i - 1)).f0 := fun hi => by rw [prevN, if_neg (by omega)]
    simp only [spec_DiskOk.l0, c, h0, if_true, e1, e2]
    generalize rd_T66 l i = f at hh ⊢
    refine Ev.bind (spec_l03Name_ev _) ?_
    by_cases a1 : 1 ≤ f.f0.size ∧ f.f0.size ≤ 8
    · by_cases a2 : (f.f1.size : Int) > 20000
      · simp only [a1, and_self, decide_true, if_true, a2]
        apply ev_some
        rw [pDiskL_bad (by simp [pFile]; omega)]
      · simp only [a1, and_self, decide_true, if_true, a2, if_false]
        refine Ev.bind (spec_l01In_ev _ _ _) ?_
        by_cases a3 : 0 ≤ f.f2 ∧ f.f2 ≤ (f.f1.size : Int)
        · have hf : pFile f = true := by simp [pFile, a1, a3]; omega
          by_cases hi : i > 0
          · simp only [a3, and_self, decide_true, if_true, hi, (k3 hi).1, (k3 hi).2]
            rw [hp1 hi]
            by_cases hb : Op.bytesLess (rd_T66 l (i - 1)).f0.toList f.f0.toList = true
            · simp only [hb, if_true]
              simpa [pDiskL, hf, hb] using hh
            · simp only [hb, if_false]
              apply ev_some
              simp [pDiskL, hb]
          · simp only [a3, and_self, decide_true, if_true, hi, if_false]
            rw [hp0 hi]
            simpa [pDiskL, hf] using hh
        · simp only [a3, decide_false, Bool.false_eq_true, if_false]
          apply ev_some
          rw [pDiskL_bad (by simp only [pFile, a3, decide_false, Bool.and_false])]
    · simp only [a1, decide_false, Bool.false_eq_true, if_false]
      apply ev_some
      rw [pDiskL_bad (by simp only [pFile, a1, decide_false, Bool.false_and])]
theorem spec_DiskOk_ev (l : List (S66)) (hl : l.length ≤ 1048576) : Ev (fun k => spec_DiskOk.f k l) (pDiskOk l) := by
  simp only [spec_DiskOk.f]
  by_cases h : (l.length : Int) > 30
  · simp only [h, if_true]
    apply ev_some
    rw [pDiskOk, decide_eq_false (by omega), Bool.false_and]
  · simp only [h, if_false]
    rw [pDiskOk, decide_eq_true (by omega), Bool.true_and]
    have := spec_DiskOk_l0 l hl l.length 0 (by omega) (by omega)
    simpa [prevN] using this

theorem spec_l03At_l0 (l : List (S66)) (n : ByteArray) (hl : l.length ≤ 1048576) : ∀ (d i : Nat), i + d = l.length → Ev (fun k => spec_l03At.l0 k n (i : Int) l) (pAtF n (l.drop i) i) := by
  intro d
  induction d with
  | zero =>
    intro i h
    apply ev_succ
    have c : ¬ (i : Int) < (l.length : Int) := by omega
    simp only [spec_l03At.l0, c, if_false]
    rw [List.drop_of_length_le (by omega)]
    exact Ev.now _
  | succ d ih =>
    intro i h
    apply ev_succ
    have c : (i : Int) < (l.length : Int) := by omega
    have c0 : (0 : Int) ≤ (i : Int) := by omega
    have e1 : wrap64 ((i : Int) + 1) = ((i + 1 : Nat) : Int) := w64 (by omega) (by omega)
    have hd := drop_file l i c0 c
    rw [show ((i : Int)).toNat = i by omega, show ((i : Int) + 1).toNat = i + 1 by omega] at hd
    have hh := ih (i + 1) (by omega)
    rw [hd, pAtF_cons]
    by_cases hq : (rd_T66 l (i : Int)).f0.toList = n.toList
    · simp only [spec_l03At.l0, c, c0, hq, if_true, beq_self_eq_true]
      exact Ev.now _
    · have hq2 : ¬ ((rd_T66 l (i : Int)).f0.toList == n.toList) = true := by simpa using hq
      simp only [spec_l03At.l0, c, c0, hq, if_true, if_false, e1]
      rw [if_neg hq2]
      exact hh
theorem spec_l03At_ev (l : List (S66)) (n : ByteArray) (hl : l.length ≤ 1048576) : Ev (fun k => spec_l03At.f k l n) (pAt l n) := by
  simp only [spec_l03At.f]
  exact spec_l03At_l0 l n hl l.length 0 (by omega)

theorem impl_within_ev (a b c : Int) : Ev (fun _ => impl_within.f a b c) (decide (b ≤ a ∧ a ≤ c)) := by
  apply ev_const
  unfold impl_within.f
  by_cases h : a ≥ b
  · rw [if_pos h]; simp [show b ≤ a from h]
  · rw [if_neg h]; simp [show ¬ b ≤ a from h]

theorem impl_DiskOk_l0 (l : List (S66)) (hl : l.length ≤ 1048576) : ∀ (d : Nat) (i : Int), 0 ≤ i → i + d = l.length → Ev (fun k => impl_DiskOk.l0 k l (l.length : Int) i l) (pDiskL (prevN l i) (l.drop i.toNat) && decide (l.length ≤ 30)) := by
  intro d
  induction d with
  | zero =>
    intro i h0 h
    apply ev_succ
    have c : ¬ i < (l.length : Int) := by omega
    simp only [impl_DiskOk.l0, c, if_false]
    rw [List.drop_of_length_le (by omega)]
    apply ev_some
    have e : decide ((l.length : Int) ≤ 30) = decide (l.length ≤ 30) := by rw [decide_eq_decide]; omega
    cases prevN l i <;> simp only [pDiskL, Bool.true_and, e]
  | succ d ih =>
    intro i h0 h
    apply ev_succ
    have c : i < (l.length : Int) := by omega
    have e1 : wrap64 (i + 1) = i + 1 := w64 (by omega) (by omega)
    have e2 : wrap64 (i - 1) = i - 1 := w64 (by omega) (by omega)
    have hh := ih (i + 1) (by omega) (by omega)
    rw [prevN_next l i h0] at hh
    rw [drop_file l i h0 c]
    have k3 : i > 0 → 0 ≤ i - 1 ∧ i - 1 < (l.length : Int) := fun _ => by omega
    have hp0 : ¬ i > 0 → prevN l i = none := fun hi => by rw [prevN, if_pos (by omega)]
    have hp1 : i > 0 → prevN l i = some (rd_T66 l (i - 1)).f0 := fun hi => by rw [prevN, if_neg (by omega)]
    simp only [impl_DiskOk.l0, c, h0, if_true, e1, e2]
    generalize rd_T66 l i = f at hh ⊢
    refine Ev.bind (impl_within_ev _ _ _) ?_
    by_cases a1 : 1 ≤ f.f0.size ∧ f.f0.size ≤ 8
    · have a1' : 1 ≤ (f.f0.size : Int) ∧ (f.f0.size : Int) ≤ 8 := by omega
      by_cases a2 : (f.f1.size : Int) > 20000
      · simp only [a1', and_self, decide_true, if_true, a2]
        apply ev_some
        rw [pDiskL_bad (by simp [pFile]; omega), Bool.false_and]
      · simp only [a1', and_self, decide_true, if_true, a2, if_false]
        refine Ev.bind (impl_within_ev _ _ _) ?_
        by_cases a3 : 0 ≤ f.f2 ∧ f.f2 ≤ (f.f1.size : Int)
        · have hf : pFile f = true := by simp [pFile, a1, a3]; omega
          by_cases hi : i > 0
          · simp only [a3, and_self, decide_true, if_true, hi, (k3 hi).1, (k3 hi).2]
            rw [hp1 hi]
            by_cases hb : Op.bytesLess (rd_T66 l (i - 1)).f0.toList f.f0.toList = true
            · simp only [hb, if_true]
              simpa [pDiskL, hf, hb] using hh
            · simp only [hb, if_false]
              apply ev_some
              simp [pDiskL, hb]
          · simp only [a3, and_self, decide_true, if_true, hi, if_false]
            rw [hp0 hi]
            simpa [pDiskL, hf] using hh
        · simp only [a3, decide_false, Bool.false_eq_true, if_false]
          apply ev_some
          rw [pDiskL_bad (by simp only [pFile, a3, decide_false, Bool.and_false]), Bool.false_and]
    · have a1' : ¬ (1 ≤ (f.f0.size : Int) ∧ (f.f0.size : Int) ≤ 8) := by omega
      simp only [a1', decide_false, Bool.false_eq_true, if_false]
      apply ev_some
      rw [pDiskL_bad (by simp only [pFile, a1, decide_false, Bool.false_and]), Bool.false_and]
theorem impl_DiskOk_ev (l : List (S66)) (hl : l.length ≤ 1048576) : Ev (fun k => impl_DiskOk.f k l) (pDiskOk l) := by
  simp only [impl_DiskOk.f]
  rw [pDiskOk, Bool.and_comm]
  have := impl_DiskOk_l0 l hl l.length 0 (by omega) (by omega)
  simpa [prevN] using this

theorem ev_to {α : Type} {g : Nat → Option α} {r q : α} (h : Ev g r) (e : r = q) : Ev g q := by subst e; exact h
theorem impl_actOk_ev (k : Int) (n t o : ByteArray) : Ev (fun _ => impl_actOk.f k n t o) (decide ((1 ≤ k ∧ k ≤ 4) ∧ (t.toList = [] ∨ k = 1) ∧ (o.toList = [] ∨ k = 3))) := by
  simp only [impl_actOk.f]
  refine Ev.bind (impl_within_ev _ _ _) ?_
  by_cases c1 : 1 ≤ k ∧ k ≤ 4
  · by_cases c2 : t.toList = []
    · by_cases c3 : o.toList = []
      · simp [c1, c2, c3]
      · by_cases c4 : k = 3
        · simp [c1, c2, c3, c4]
        · simp [c1, c2, c3, c4]
    · by_cases c5 : k = 1
      · by_cases c3 : o.toList = []
        · simp [c2, c3, c5]
        · simp [c2, c3, c5]
      · simp [c1, c2, c5]
  · simp [c1]
theorem okOut_ev (l : List (S66)) (hl : l.length ≤ 1048576) : Ev (fun k => (impl_DiskOk.f k l).bind fun t => (if t = true then (some (l, true)) else (some (([] : List (S66)), false)))) (okOut l) := by
  refine Ev.bind (impl_DiskOk_ev l hl) ?_
  unfold okOut
  by_cases c : pDiskOk l = true
  · simp only [c, if_true]; exact Ev.now _
  · simp only [c, if_false]; exact Ev.now _
theorem impl_DoAct_j1 (l : List (S66)) (k : Int) (n t o : ByteArray) (f : S66) (hd : pDiskOk l = true) (ht : t.size ≤ 1048576) (hft : f.f1.size ≤ 1048576) :
    Ev (fun q => impl_DoAct.j1 q l k n t o f.f0 f.f1 f.f2) (if k = 1 then okOut (pPut l ⟨f.f0, f.f1 ++ t, f.f2⟩) else if k = 2 then okOut (pPut l ⟨f.f0, f.f1, f.f1.size⟩) else if k = 3 then (if f.f2 = f.f1.size ∧ ¬ o.toList = n.toList then okOut (pPut (pWithout l n) ⟨o, f.f1, f.f2⟩) else ([], false)) else okOut (pWithout l n)) := by
  obtain ⟨hl, hdl, hp⟩ := pDiskOk_pair hd
  have L := fun g => pPut_len l g
  have LW := pWithout_len l n
  have hpw : (pWithout l n).Pairwise (fun a b => ltF a b = true) := hp.filter _
  apply ev_succ
  by_cases c1 : k = 1
  · have w := impl_withFile_eq l ⟨f.f0, f.f1 ++ t, f.f2⟩ (by omega) hp
    have c : f.f1.size + t.size ≤ 9223372036854775807 := by omega
    simp only [impl_DoAct.j1, c1, if_true, c]
    rw [w]
    simp only [Option.bind_some]
    exact okOut_ev _ (by have := L ⟨f.f0, f.f1 ++ t, f.f2⟩; omega)
  by_cases c2 : k = 2
  · have w := impl_withFile_eq l ⟨f.f0, f.f1, f.f1.size⟩ (by omega) hp
    have c1' : ¬ (2 : Int) = 1 := by decide
    simp only [impl_DoAct.j1, c2, c1', if_true, if_false]
    rw [w]
    simp only [Option.bind_some]
    exact okOut_ev _ (by have := L ⟨f.f0, f.f1, f.f1.size⟩; omega)
  by_cases c3 : k = 3
  · have c1' : ¬ (3 : Int) = 1 := by decide
    have c2' : ¬ (3 : Int) = 2 := by decide
    simp only [impl_DoAct.j1, c3, c1', c2', if_true, if_false]
    by_cases d1 : f.f2 = f.f1.size
    · simp only [d1, if_true, true_and]
      by_cases d2 : o.toList = n.toList
      · apply ev_succ
        simp only [impl_DoAct.j2, d2, beq_self_eq_true, if_true, not_true, if_false]
        exact Ev.now _
      · have d2' : (o.toList == n.toList) = false := beq_eq_false_iff_ne.2 d2
        apply ev_succ
        have w := impl_withFile_eq (pWithout l n) ⟨o, f.f1, f.f1.size⟩ (by omega) hpw
        simp only [impl_DoAct.j2, d2, d2', Bool.false_eq_true, not_false_eq_true, if_true, if_false, impl_withoutFile_eq l n (by omega), Option.bind_some]
        rw [w]
        simp only [Option.bind_some]
        exact okOut_ev _ (by have := pPut_len (pWithout l n) ⟨o, f.f1, f.f1.size⟩; omega)
    · simp only [d1, if_false, false_and]
      apply ev_succ
      simp only [impl_DoAct.j2, if_true]
      exact Ev.now _
  · simp only [impl_DoAct.j1, c1, c2, c3, if_false, impl_withoutFile_eq l n (by omega), Option.bind_some]
    exact okOut_ev _ (by omega)
theorem pOf_f1 (l : List (S66)) (n : ByteArray) (hd : pDiskOk l = true) : (pOf l n).f1.size ≤ 1048576 := by
  unfold pOf
  split
  · exact Nat.zero_le _
  · rename_i h
    have h2 := pAt_get l n h
    have := (pDiskOk_files hd).2 _ (rd_mem l _ h2.1 h2.2)
    omega
theorem impl_DoAct_ev (l : List (S66)) (k : Int) (n t o : ByteArray) (hl : l.length ≤ 1048576) (ht : t.size ≤ 1048576) : Ev (fun q => impl_DoAct.f q l k n t o) (pDoAct l k n t o) := by
  have hp : impl_placeOf.f l n = some (pAt l n) := rfl
  simp only [impl_DoAct.f, hp, Option.bind_some]
  refine Ev.bind (impl_DiskOk_ev l hl) ?_
  unfold pDoAct
  by_cases c0 : pDiskOk l = true
  · have hf1 := pOf_f1 l n c0
    have J := impl_DoAct_j1 l k n t o (pOf l n) c0 ht hf1
    simp only [c0, if_true]
    refine Ev.bind (impl_actOk_ev k n t o) ?_
    by_cases ca : (1 ≤ k ∧ k ≤ 4) ∧ (t.toList = [] ∨ k = 1) ∧ (o.toList = [] ∨ k = 3)
    · simp only [decide_eq_true ca, if_true]
      by_cases cn : pAt l n < 0
      · have e : pOf l n = ⟨n, ⟨#[]⟩, 0⟩ := by unfold pOf; rw [if_pos cn]
        have cn2 : ¬ pAt l n ≥ 0 := by omega
        rw [e] at J ⊢
        simp only [cn, if_true]
        apply ev_succ
        by_cases c1 : k = 1
        · have co : o.toList = [] := by rcases ca.2.2 with h | h; exact h; omega
          rw [c1] at J
          simp only [impl_DoAct.j0, c1, bne_self_eq_false, Bool.false_eq_true, if_false, cn2, if_true, co] at J ⊢
          exact J
        · have c1' : (k != 1) = true := by simpa using c1
          simp only [impl_DoAct.j0, c1, c1', if_true, if_false]
          exact Ev.now _
      · have e : pOf l n = rd_T66 l (pAt l n) := by unfold pOf; rw [if_neg cn]
        have h2 := pAt_get l n cn
        have cn2 : pAt l n ≥ 0 := h2.1
        rw [e] at J ⊢
        simp only [cn, if_false]
        apply ev_succ
        simp only [impl_DoAct.j0, Bool.false_eq_true, if_false, cn2, h2.1, h2.2, if_true]
        refine ev_to J ?_
        by_cases c1 : k = 1
        · have co : o.toList = [] := by rcases ca.2.2 with h | h; exact h; omega
          simp only [c1, co, if_true]
        · have ct : t.toList = [] := by rcases ca.2.1 with h | h; exact h; exact absurd h c1
          by_cases c2 : k = 2
          · have co : o.toList = [] := by rcases ca.2.2 with h | h; exact h; omega
            simp only [c2, ct, co, if_true, and_self, show ¬ (2 : Int) = 1 by decide, if_false]
          · by_cases c3 : k = 3
            · simp only [c3, ct, true_and, show ¬ (3 : Int) = 1 by decide, show ¬ (3 : Int) = 2 by decide, if_false, if_true]
            · have c4 : k = 4 := by omega
              have co : o.toList = [] := by rcases ca.2.2 with h | h; exact h; omega
              simp only [c4, ct, co, and_self, show ¬ (4 : Int) = 1 by decide, show ¬ (4 : Int) = 2 by decide, show ¬ (4 : Int) = 3 by decide, if_false, if_true]
    · simp only [decide_eq_false ca, Bool.false_eq_true, if_false]
      apply ev_succ
      simp only [impl_DoAct.j0, if_true]
      refine ev_some ?_
      by_cases c1 : k = 1
      · have co : ¬ o.toList = [] := fun h => ca ⟨by omega, Or.inr c1, Or.inl h⟩
        rw [if_pos c1, if_neg co]
      rw [if_neg c1]
      by_cases cn : pAt l n < 0
      · rw [if_pos cn]
      rw [if_neg cn]
      by_cases c2 : k = 2
      · rw [if_pos c2, if_neg (fun h => ca ⟨by omega, Or.inl h.2, Or.inl h.1⟩)]
      rw [if_neg c2]
      by_cases c3 : k = 3
      · rw [if_pos c3, if_neg (fun h => ca ⟨by omega, Or.inl h.1, Or.inr c3⟩)]
      rw [if_neg c3]
      by_cases c4 : k = 4
      · rw [if_pos c4, if_neg (fun h => ca ⟨by omega, Or.inl h.2, Or.inl h.1⟩)]
      rw [if_neg c4]
  · simp only [c0, if_false]
    apply ev_succ
    simp only [impl_DoAct.j0, if_true]
    exact Ev.now _

theorem spec_l03Without_l0 (l : List (S66)) (n : ByteArray) (hl : l.length ≤ 1048576) : ∀ (d : Nat) (i : Int) (acc R : List (S66)), 0 ≤ i → i + d = l.length → (acc.length : Int) ≤ i → acc ++ (l.drop i.toNat).filter (keepF n) = R →
    Ev (fun k => spec_l03Without.l0 k n i l acc) R := by
  intro d
  induction d with
  | zero =>
    intro i acc R h0 h ha hR
    apply ev_succ
    have c : ¬ i < (l.length : Int) := by omega
    simp only [spec_l03Without.l0, c, if_false]
    rw [List.drop_of_length_le (by omega), List.filter_nil, List.append_nil] at hR
    exact ev_some hR
  | succ d ih =>
    intro i acc R h0 h ha hR
    apply ev_succ
    have c : i < (l.length : Int) := by omega
    have e1 : wrap64 (i + 1) = i + 1 := w64 (by omega) (by omega)
    have ca : acc.length < 3518437208883 := by omega
    rw [drop_file l i h0 c] at hR
    by_cases hq : (rd_T66 l i).f0.toList = n.toList
    · rw [List.filter_cons_of_neg (by unfold keepF; rw [hq]; simp)] at hR
      simp only [spec_l03Without.l0, c, h0, hq, if_true, e1]
      exact ih (i + 1) acc R (by omega) (by omega) (by omega) hR
    · rw [List.filter_cons_of_pos (by unfold keepF; rw [Bool.not_eq_true', beq_eq_false_iff_ne]; exact hq)] at hR
      simp only [spec_l03Without.l0, c, h0, hq, if_true, if_false, ca, e1]
      refine ih (i + 1) _ R (by omega) (by omega) (by rw [List.length_append]; simp; omega) ?_
      rw [List.append_assoc]
      exact hR
theorem spec_l03Without_ev (l : List (S66)) (n : ByteArray) (hl : l.length ≤ 1048576) : Ev (fun k => spec_l03Without.f k l n) (pWithout l n) := by
  simp only [spec_l03Without.f]
  exact spec_l03Without_l0 l n hl l.length 0 [] _ (by omega) (by omega) (by simp) (by simp [pWithout])
theorem okOutS_ev (l : List (S66)) (hl : l.length ≤ 1048576) : Ev (fun k => (spec_DiskOk.f k l).bind fun t => (if t = true then (some (l, true)) else (some (([] : List (S66)), false)))) (okOut l) := by
  refine Ev.bind (spec_DiskOk_ev l hl) ?_
  unfold okOut
  by_cases c : pDiskOk l = true
  · simp only [c, if_true]; exact Ev.now _
  · simp only [c, if_false]; exact Ev.now _
theorem okOut_bad {l : List (S66)} (h : pDiskOk l = false) : okOut l = ([], false) := by unfold okOut; rw [h]; rfl
theorem spec_DoAct_j1 (l : List (S66)) (at_ k : Int) (n t o : ByteArray) (f : S66) (hd : pDiskOk l = true) (ht : t.size ≤ 1048576) (hft : f.f1.size ≤ 1048576) :
    Ev (fun q => spec_DoAct.j1 q at_ l k n t o f.f0 f.f1 f.f2) (if k = 1 then okOut (pPut l ⟨f.f0, f.f1 ++ t, f.f2⟩) else if at_ < 0 then ([], false) else if k = 2 then okOut (pPut l ⟨f.f0, f.f1, f.f1.size⟩) else if k = 3 then (if ¬ f.f2 < f.f1.size ∧ ¬ o.toList = n.toList then okOut (pPut (pWithout l n) ⟨o, f.f1, f.f2⟩) else ([], false)) else if k = 4 then okOut (pWithout l n) else ([], false)) := by
  obtain ⟨hl, hdl, hp⟩ := pDiskOk_pair hd
  have L := fun g => pPut_len l g
  have LW := pWithout_len l n
  apply ev_succ
  by_cases c1 : k = 1
  · have w := spec_l03Put_ev l ⟨f.f0, f.f1 ++ t, f.f2⟩ (by omega)
    have c : f.f1.size + t.size ≤ 9223372036854775807 := by omega
    simp only [spec_DoAct.j1, c1, if_true, c]
    exact Ev.bind w (okOutS_ev _ (by have := L ⟨f.f0, f.f1 ++ t, f.f2⟩; omega))
  by_cases ca : at_ < 0
  · simp only [spec_DoAct.j1, c1, ca, if_true, if_false]
    exact Ev.now _
  by_cases c2 : k = 2
  · have w := spec_l03Put_ev l ⟨f.f0, f.f1, f.f1.size⟩ (by omega)
    have c1' : ¬ (2 : Int) = 1 := by decide
    simp only [spec_DoAct.j1, c2, c1', ca, if_true, if_false]
    exact Ev.bind w (okOutS_ev _ (by have := L ⟨f.f0, f.f1, f.f1.size⟩; omega))
  by_cases c3 : k = 3
  · have c1' : ¬ (3 : Int) = 1 := by decide
    have c2' : ¬ (3 : Int) = 2 := by decide
    simp only [spec_DoAct.j1, c3, c1', c2', ca, if_true, if_false]
    by_cases d1 : f.f2 < f.f1.size
    · simp only [d1, if_true, not_true, false_and, if_false]
      apply ev_succ
      simp only [spec_DoAct.j2, if_true]
      exact Ev.now _
    · simp only [d1, if_false, not_false_eq_true, true_and]
      by_cases d2 : o.toList = n.toList
      · simp only [d2, if_true, not_true, if_false]
        apply ev_succ
        simp only [spec_DoAct.j2, if_true]
        exact Ev.now _
      · simp only [d2, if_false, not_false_eq_true, if_true]
        refine Ev.bind (spec_l03Name_ev o) ?_
        apply ev_succ
        by_cases d3 : 1 ≤ o.size ∧ o.size ≤ 8
        · simp only [spec_DoAct.j2, decide_eq_true d3, Bool.not_true, Bool.false_eq_true, if_false]
          refine Ev.bind (spec_l03Without_ev l n (by omega)) ?_
          exact Ev.bind (spec_l03Put_ev (pWithout l n) ⟨o, f.f1, f.f2⟩ (by omega)) (okOutS_ev _ (by have := pPut_len (pWithout l n) ⟨o, f.f1, f.f2⟩; omega))
        · simp only [spec_DoAct.j2, decide_eq_false d3, Bool.not_false, if_true]
          rw [okOut_bad (pDiskOk_bad (pPut_mem _ _) (pFile_name (by exact d3)))]
          exact Ev.now _
  by_cases c4 : k = 4
  · have c1' : ¬ (4 : Int) = 1 := by decide
    have c2' : ¬ (4 : Int) = 2 := by decide
    have c3' : ¬ (4 : Int) = 3 := by decide
    simp only [spec_DoAct.j1, c4, c1', c2', c3', ca, if_true, if_false]
    exact Ev.bind (spec_l03Without_ev l n (by omega)) (okOutS_ev _ (by omega))
  · simp only [spec_DoAct.j1, c1, c2, c3, c4, ca, if_false]
    exact Ev.now _
theorem spec_DoAct_j0 (b : Bool) (l : List (S66)) (k : Int) (n t o : ByteArray) (hd : pDiskOk l = true) (ht : t.size ≤ 1048576) (hn : 1 ≤ n.size ∧ n.size ≤ 8) (hb : b = decide (¬ (k = 3 ∨ o.toList = []) ∨ ¬ (k = 1 ∨ t.toList = []))) :
    Ev (fun q => spec_DoAct.j0 q b l k n t o) (pDoAct l k n t o) := by
  obtain ⟨hl, hdl, hp⟩ := pDiskOk_pair hd
  apply ev_succ
  unfold pDoAct
  rw [if_pos hd]
  by_cases cb : ¬ (k = 3 ∨ o.toList = []) ∨ ¬ (k = 1 ∨ t.toList = [])
  · rw [decide_eq_true cb] at hb
    simp only [spec_DoAct.j0, hb, if_true]
    refine ev_some ?_
    by_cases c1 : k = 1
    · rw [if_pos c1, if_neg (fun h => by rcases cb with h2 | h2; exact h2 (Or.inr h); exact h2 (Or.inl c1))]
    rw [if_neg c1]
    by_cases cn : pAt l n < 0
    · rw [if_pos cn]
    rw [if_neg cn]
    by_cases c2 : k = 2
    · rw [if_pos c2, if_neg (fun h => by rcases cb with h2 | h2; exact h2 (Or.inr h.1); exact h2 (Or.inr h.2))]
    rw [if_neg c2]
    by_cases c3 : k = 3
    · rw [if_pos c3, if_neg (fun h => by rcases cb with h2 | h2; exact h2 (Or.inl c3); exact h2 (Or.inr h.1))]
    rw [if_neg c3]
    by_cases c4 : k = 4
    · rw [if_pos c4, if_neg (fun h => by rcases cb with h2 | h2; exact h2 (Or.inr h.1); exact h2 (Or.inr h.2))]
    rw [if_neg c4]
  · rw [decide_eq_false cb] at hb
    have ko : k = 3 ∨ o.toList = [] := Classical.not_not.1 (fun h => cb (Or.inl h))
    have kt : k = 1 ∨ t.toList = [] := Classical.not_not.1 (fun h => cb (Or.inr h))
    simp only [spec_DoAct.j0, hb, Bool.false_eq_true, if_false]
    refine Ev.bind (spec_l03At_ev l n (by omega)) ?_
    have hf1 := pOf_f1 l n hd
    have J := spec_DoAct_j1 l (pAt l n) k n t o (pOf l n) hd ht hf1
    have key : (if k = 1 then okOut (pPut l ⟨(pOf l n).f0, (pOf l n).f1 ++ t, (pOf l n).f2⟩) else if pAt l n < 0 then ([], false) else if k = 2 then okOut (pPut l ⟨(pOf l n).f0, (pOf l n).f1, (pOf l n).f1.size⟩) else if k = 3 then (if ¬ (pOf l n).f2 < (pOf l n).f1.size ∧ ¬ o.toList = n.toList then okOut (pPut (pWithout l n) ⟨o, (pOf l n).f1, (pOf l n).f2⟩) else ([], false)) else if k = 4 then okOut (pWithout l n) else ([], false)) =
        (if k = 1 then (if o.toList = [] then okOut (pPut l ⟨(pOf l n).f0, (pOf l n).f1 ++ t, (pOf l n).f2⟩) else ([], false)) else if pAt l n < 0 then ([], false) else if k = 2 then (if o.toList = [] ∧ t.toList = [] then okOut (pPut l ⟨(pOf l n).f0, (pOf l n).f1, (pOf l n).f1.size⟩) else ([], false)) else if k = 3 then (if t.toList = [] ∧ (pOf l n).f2 = (pOf l n).f1.size ∧ ¬ o.toList = n.toList then okOut (pPut (pWithout l n) ⟨o, (pOf l n).f1, (pOf l n).f2⟩) else ([], false)) else if k = 4 then (if o.toList = [] ∧ t.toList = [] then okOut (pWithout l n) else ([], false)) else ([], false)) := by
      by_cases c1 : k = 1
      · have co : o.toList = [] := by rcases ko with h | h; omega; exact h
        rw [if_pos c1, if_pos c1, if_pos co]
      have ct : t.toList = [] := by rcases kt with h | h; exact absurd h c1; exact h
      rw [if_neg c1, if_neg c1]
      by_cases cn : pAt l n < 0
      · rw [if_pos cn, if_pos cn]
      rw [if_neg cn, if_neg cn]
      by_cases c2 : k = 2
      · have co : o.toList = [] := by rcases ko with h | h; omega; exact h
        rw [if_pos c2, if_pos c2, if_pos ⟨co, ct⟩]
      rw [if_neg c2, if_neg c2]
      by_cases c3 : k = 3
      · rw [if_pos c3, if_pos c3]
        have h2 := pAt_get l n cn
        have e : pOf l n = rd_T66 l (pAt l n) := by unfold pOf; rw [if_neg cn]
        have hk := (pDiskOk_files hd).2 _ (rd_mem l _ h2.1 h2.2)
        rw [← e] at hk
        have hi : ¬ (pOf l n).f2 < (pOf l n).f1.size ↔ (pOf l n).f2 = (pOf l n).f1.size := by omega
        simp only [ct, true_and, hi]
      rw [if_neg c3, if_neg c3]
      by_cases c4 : k = 4
      · have co : o.toList = [] := by rcases ko with h | h; omega; exact h
        rw [if_pos c4, if_pos c4, if_pos ⟨co, ct⟩]
      rw [if_neg c4, if_neg c4]
    rw [← key]
    by_cases cn : pAt l n < 0
    · have e : pOf l n = ⟨n, ⟨#[]⟩, 0⟩ := by unfold pOf; rw [if_pos cn]
      have cn2 : ¬ pAt l n ≥ 0 := by omega
      rw [e] at J ⊢
      simp only [cn2, if_false]
      exact J
    · have e : pOf l n = rd_T66 l (pAt l n) := by unfold pOf; rw [if_neg cn]
      have h2 := pAt_get l n cn
      have cn2 : pAt l n ≥ 0 := h2.1
      rw [e] at J ⊢
      simp only [cn2, h2.1, h2.2, if_true]
      exact J
theorem pDoAct_badname (l : List (S66)) (k : Int) (n t o : ByteArray) (hd : pDiskOk l = true) (hn : ¬ (1 ≤ n.size ∧ n.size ≤ 8)) : pDoAct l k n t o = ([], false) := by
  have cn : pAt l n < 0 := by
    refine Classical.not_not.1 (fun h => hn ?_)
    have h2 := pAt_get l n h
    have hk := (pDiskOk_files hd).2 _ (rd_mem l _ h2.1 h2.2)
    have e : (rd_T66 l (pAt l n)).f0 = n := toList_iff.1 (pAt_name l n h)
    rw [e] at hk
    exact hk.1
  have e : pOf l n = ⟨n, ⟨#[]⟩, 0⟩ := by unfold pOf; rw [if_pos cn]
  unfold pDoAct
  rw [if_pos hd, if_pos cn, e]
  by_cases c1 : k = 1
  · rw [if_pos c1]
    split
    · exact okOut_bad (pDiskOk_bad (pPut_mem _ _) (pFile_name (by exact hn)))
    · rfl
  · rw [if_neg c1]
theorem spec_DoAct_ev (l : List (S66)) (k : Int) (n t o : ByteArray) (hl : l.length ≤ 1048576) (ht : t.size ≤ 1048576) : Ev (fun q => spec_DoAct.f q l k n t o) (pDoAct l k n t o) := by
  simp only [spec_DoAct.f]
  refine Ev.bind (spec_DiskOk_ev l hl) ?_
  by_cases c0 : pDiskOk l = true
  · simp only [c0, if_true]
    refine Ev.bind (spec_l03Name_ev n) ?_
    by_cases cn : 1 ≤ n.size ∧ n.size ≤ 8
    · have J := fun b hb => spec_DoAct_j0 b l k n t o c0 ht cn hb
      simp only [decide_eq_true cn, if_true]
      by_cases c3 : k = 3
      · have c1' : ¬ k = 1 := by omega
        simp only [c3, if_true, show ¬ (3 : Int) = 1 by decide, if_false]
        rw [c3] at J
        refine J _ ?_
        by_cases ct : t.toList = [] <;> simp [ct]
      · by_cases co : o.toList = []
        · by_cases c1 : k = 1
          · rw [c1] at J
            simp only [c1, co, show ¬ (1 : Int) = 3 by decide, if_true, if_false]
            refine J _ ?_
            simp [co]
          · simp only [c3, c1, co, if_true, if_false]
            refine J _ ?_
            by_cases ct : t.toList = [] <;> simp [ct, co, c1]
        · simp only [c3, co, if_false]
          refine J _ ?_
          simp [co, c3]
    · simp only [decide_eq_false cn, Bool.false_eq_true, if_false]
      apply ev_succ
      simp only [spec_DoAct.j0, if_true]
      exact ev_some (pDoAct_badname l k n t o c0 cn).symm
  · simp only [c0, if_false]
    apply ev_succ
    simp only [spec_DoAct.j0, if_true]
    unfold pDoAct
    rw [if_neg c0]
    exact Ev.now _

theorem spec_l01Once_ev (s : List Int) (i h n : Int) (hi : 0 ≤ i ∧ i ≤ s.length) (hs : s.length ≤ 140737488355328) : ∃ b j g, spec_l01Once.f s i h n = some (b, j, g) ∧ 0 ≤ j ∧ j ≤ (s.length : Int) := by
  obtain ⟨x, j, g, e, _, _, hj⟩ := spec_l01Below_ev s i h n hi hs
  exact ⟨x == 0, j, g, by simp only [spec_l01Once.f, e, Option.bind_some], hj⟩

theorem spec_l03Act_j0 (s : List Int) (hs : s.length ≤ 140737488355328) (j g K : Int) (n t o : ByteArray) (hj : 0 ≤ j ∧ j ≤ (s.length : Int)) (ht : t.size ≤ 5000) :
    ∃ (K' : Int) (n' t' o' : ByteArray) (j' g' : Int), Ev (fun k => spec_l03Act.j0 k s j g K n t o) (K', n', t', o', j', g') ∧ t'.size ≤ 5000 ∧ 0 ≤ j' ∧ j' ≤ (s.length : Int) := by
  obtain ⟨x, j1, g1, e, _, _, hj1⟩ := spec_l01Below_ev s j g 40 hj hs
  by_cases c0 : x = 0
  · obtain ⟨v, j2, g2, e2, hj2⟩ := spec_l01PickInt_ev s j1 g1 ([0, 5] : List Int) (by decide) hj1 hs
    refine ⟨v, n, t, o, j2, g2, ev_succ ?_, ht, hj2⟩
    simp only [spec_l03Act.j0, e, Option.bind_some, c0, if_true, e2]
    exact Ev.now _
  by_cases c1 : x = 1
  · obtain ⟨v, j2, g2, e2, hj2⟩ := spec_l01Pick_ev s j1 g1 ([(⟨#[]⟩ : ByteArray), (⟨#[49, 50, 51, 52, 53, 54, 55, 56, 57]⟩ : ByteArray), (⟨#[110, 101, 119]⟩ : ByteArray)] : List ByteArray) (by decide) hj1 hs
    refine ⟨K, v, t, o, j2, g2, ev_succ ?_, ht, hj2⟩
    simp only [spec_l03Act.j0, e, Option.bind_some, c0, if_false]
    simp only [c1, if_true, e2, Option.bind_some]
    exact Ev.now _
  by_cases c2 : x = 2
  · refine ⟨K, n, t, (⟨#[120]⟩ : ByteArray), j1, g1, ev_succ ?_, ht, hj1⟩
    simp only [spec_l03Act.j0, e, Option.bind_some, c0, c1, if_false]
    simp only [c2, if_true]
    exact Ev.now _
  by_cases c3 : x = 3
  · refine ⟨K, n, (⟨#[120]⟩ : ByteArray), o, j1, g1, ev_succ ?_, by decide, hj1⟩
    simp only [spec_l03Act.j0, e, Option.bind_some, c0, c1, c2, if_false]
    simp only [c3, if_true]
    exact Ev.now _
  · refine ⟨K, n, t, o, j1, g1, ev_succ ?_, ht, hj1⟩
    simp only [spec_l03Act.j0, e, Option.bind_some, c0, c1, c2, c3, if_false]
    exact Ev.now _
theorem spec_l03Act_ev (s : List Int) (i h : Int) (hi : 0 ≤ i ∧ i ≤ s.length) (hs : s.length ≤ 140737488355328) :
    ∃ (K : Int) (n t o : ByteArray) (j g : Int), Ev (fun k => spec_l03Act.f k s i h) (K, n, t, o, j, g) ∧ t.size ≤ 5000 ∧ 0 ≤ j ∧ j ≤ (s.length : Int) := by
  obtain ⟨x, j1, g1, e, _, hx, hj1⟩ := spec_l01Below_ev s i h 4 hi hs
  obtain ⟨nm, j2, g2, e2, _, hj2⟩ := spec_l03Named_ev s j1 g1 hj1 hs
  by_cases c1 : wrap64 (1 + x) = 1
  · obtain ⟨y, j3, g3, e3, _, hy, hj3⟩ := spec_l01Below_ev s j2 g2 6 hj2 hs
    have hy := hy (by decide)
    obtain ⟨t, j4, g4, ht, _, hts, hj4⟩ := spec_l01Text_ev s j3 g3 y hj3 hs hy.1
    obtain ⟨K', n', t', o', j', g', hr, hr2⟩ := spec_l03Act_j0 s hs j4 g4 (wrap64 (1 + x)) nm t (⟨#[]⟩ : ByteArray) hj4 (by omega)
    refine ⟨K', n', t', o', j', g', ?_, hr2⟩
    simp only [spec_l03Act.f, e, Option.bind_some, e2, c1, if_true, e3]
    rw [c1] at hr
    exact Ev.bind ht hr
  by_cases c3 : wrap64 (1 + x) = 3
  · obtain ⟨o, j3, g3, e3, _, hj3⟩ := spec_l03Named_ev s j2 g2 hj2 hs
    obtain ⟨K', n', t', o', j', g', hr, hr2⟩ := spec_l03Act_j0 s hs j3 g3 (wrap64 (1 + x)) nm (⟨#[]⟩ : ByteArray) o hj3 (by decide)
    refine ⟨K', n', t', o', j', g', ?_, hr2⟩
    simp only [spec_l03Act.f, e, Option.bind_some, e2, c1, if_false]
    rw [c3] at hr
    simp only [c3, if_true, e3, Option.bind_some]
    exact hr
  · obtain ⟨K', n', t', o', j', g', hr, hr2⟩ := spec_l03Act_j0 s hs j2 g2 (wrap64 (1 + x)) nm (⟨#[]⟩ : ByteArray) (⟨#[]⟩ : ByteArray) hj2 (by decide)
    refine ⟨K', n', t', o', j', g', ?_, hr2⟩
    simp only [spec_l03Act.f, e, Option.bind_some, e2, c1, c3, if_false]
    exact hr
theorem spec_l03Acts_l0 (s : List Int) (hs : s.length ≤ 140737488355328) : ∀ (d : Nat) (i : Int) (acc : List (S35)) (l : List (S66)) (j g : Int), 0 ≤ i → i + d = 9 → (acc.length : Int) ≤ i → (∀ a ∈ acc, a.f2.size ≤ 5000) → l.length ≤ 1048576 → 0 ≤ j ∧ j ≤ (s.length : Int) →
    ∃ (r : List (S35)) (j' g' : Int), Ev (fun k => spec_l03Acts.l0 k acc i s j g l) (r, j', g') ∧ (r.length ≤ 9 ∧ ∀ a ∈ r, a.f2.size ≤ 5000) ∧ 0 ≤ j' ∧ j' ≤ (s.length : Int) := by
  intro d
  induction d using Nat.strongRecOn with
  | ind d ih =>
    intro i acc l j g h0 hd hl ha hll hj
    obtain ⟨x, j1, g1, e, _, hx, hj1⟩ := spec_l01Below_ev s j g 9 hj hs
    have hx := hx (by decide)
    by_cases c : i < x
    · obtain ⟨K, n, t, o, j2, g2, hA, ht, hj2⟩ := spec_l03Act_ev s j1 g1 hj1 hs
      have hD := spec_DoAct_ev l K n t o hll (by omega)
      have hdl := pDoAct_len l K n t o
      have e1 : wrap64 (i + 1) = i + 1 := w64 (by omega) (by omega)
      have ca : acc.length < 2513169434916 := by omega
      have ha' : ∀ a ∈ acc ++ [(⟨K, n, t, o⟩ : S35)], a.f2.size ≤ 5000 := by
        intro a hm
        rcases List.mem_append.1 hm with hm | hm
        · exact ha a hm
        · rw [List.mem_singleton] at hm
          rw [hm]
          exact ht
      have hl' : ((acc ++ [(⟨K, n, t, o⟩ : S35)]).length : Int) ≤ i + 1 := by rw [List.length_append, List.length_singleton]; omega
      obtain ⟨p, q, hp⟩ : ∃ p q, pDoAct l K n t o = (p, q) := ⟨_, _, rfl⟩
      rw [hp] at hD hdl
      simp only at hdl
      cases q with
      | true =>
        obtain ⟨r, j', g', hr, hr2⟩ := ih (d - 1) (by omega) (i + 1) _ p j2 g2 (by omega) (by omega) hl' ha' (by omega) hj2
        refine ⟨r, j', g', ev_succ ?_, hr2⟩
        simp only [spec_l03Acts.l0, e, Option.bind_some, c, if_true, e1]
        refine Ev.bind hA ?_
        refine Ev.bind hD ?_
        simp only [ca, if_true]
        exact hr
      | false =>
        obtain ⟨b, j3, g3, e3, hj3⟩ := spec_l01Once_ev s j2 g2 20 hj2 hs
        cases b with
        | true =>
          obtain ⟨r, j', g', hr, hr2⟩ := ih (d - 1) (by omega) (i + 1) _ p j3 g3 (by omega) (by omega) hl' ha' (by omega) hj3
          refine ⟨r, j', g', ev_succ ?_, hr2⟩
          simp only [spec_l03Acts.l0, e, Option.bind_some, c, if_true, e1]
          refine Ev.bind hA ?_
          refine Ev.bind hD ?_
          simp only [Bool.false_eq_true, if_false, e3, Option.bind_some, ca, if_true]
          exact hr
        | false =>
          obtain ⟨r, j', g', hr, hr2⟩ := ih (d - 1) (by omega) (i + 1) acc l j3 g3 (by omega) (by omega) (by omega) ha hll hj3
          refine ⟨r, j', g', ev_succ ?_, hr2⟩
          simp only [spec_l03Acts.l0, e, Option.bind_some, c, if_true, e1]
          refine Ev.bind hA ?_
          refine Ev.bind hD ?_
          simp only [Bool.false_eq_true, if_false, e3, Option.bind_some]
          exact hr
    · refine ⟨acc, j1, g1, ev_succ ?_, ⟨by omega, ha⟩, hj1⟩
      simp only [spec_l03Acts.l0, e, Option.bind_some, c, if_false]
      exact Ev.now _
theorem spec_l01PlaceX (s : List Int) (i h n : Int) (hi : 0 ≤ i ∧ i ≤ s.length) (hs : s.length ≤ 140737488355328) : ∃ x j g, spec_l01Place.f s i h n = some (x, j, g) ∧ 0 ≤ j ∧ j ≤ (s.length : Int) := by
  obtain ⟨b, j1, g1, e, hj1⟩ := spec_l01Once_ev s i h 15 hi hs
  cases b with
  | true =>
    obtain ⟨v, j2, g2, e2, hj2⟩ := spec_l01PickInt_ev s j1 g1 ([(-1), n, wrap64 (n + 1), 9223372036854775807, (-9223372036854775808)] : List Int) (by simp) hj1 hs
    exact ⟨v, j2, g2, by simp only [spec_l01Place.f, e, Option.bind_some, if_true, e2], hj2⟩
  | false =>
    obtain ⟨v, j2, g2, e2, _, _, hj2⟩ := spec_l01Below_ev s j1 g1 n hj1 hs
    exact ⟨v, j2, g2, by simp only [spec_l01Place.f, e, Option.bind_some, Bool.false_eq_true, if_false, e2], hj2⟩
theorem spec_l03Left_l0 (s : List Int) (hs : s.length ≤ 140737488355328) : ∀ (d : Nat) (i : Int) (acc : List Int) (j g : Int), 0 ≤ i → i + d = 6 → (acc.length : Int) ≤ i → 0 ≤ j ∧ j ≤ (s.length : Int) →
    ∃ (r : List Int) (j' g' : Int), Ev (fun k => spec_l03Left.l0 k acc i s j g) (r, j', g') := by
  intro d
  induction d using Nat.strongRecOn with
  | ind d ih =>
    intro i acc j g h0 hd hl hj
    obtain ⟨x, j1, g1, e, _, hx, hj1⟩ := spec_l01Below_ev s j g 6 hj hs
    have hx := hx (by decide)
    by_cases c : i < x
    · obtain ⟨v, j2, g2, e2, hj2⟩ := spec_l01PickInt_ev s j1 g1 ([0, 1, 2, 3, 5, 9, 40, 200, (-1), 9223372036854775807] : List Int) (by decide) hj1 hs
      obtain ⟨r, j', g', hr⟩ := ih (d - 1) (by omega) (i + 1) (acc ++ [v]) j2 g2 (by omega) (by omega) (by rw [List.length_append, List.length_singleton]; omega) hj2
      refine ⟨r, j', g', ev_succ ?_⟩
      have e1 : wrap64 (i + 1) = i + 1 := w64 (by omega) (by omega)
      have ca : acc.length < 17592186044416 := by omega
      simp only [spec_l03Left.l0, e, Option.bind_some, c, if_true, e1, e2, ca]
      exact hr
    · refine ⟨acc, j1, g1, ev_succ ?_⟩
      simp only [spec_l03Left.l0, e, Option.bind_some, c, if_false]
      exact Ev.now _
theorem spec_DrawCutActs_ev (c : List Int) (hc : c.length ≤ 140737488355328) :
    ∃ (l : List (S66)) (ac : List (S35)) (w : Int) (left : List Int), Ev (fun k => spec_DrawCutActs.f k c) (l, ac, w, left) ∧ l.length ≤ 31 ∧ ac.length ≤ 9 ∧ ∀ a ∈ ac, a.f2.size ≤ 5000 := by
  obtain ⟨g, hg⟩ := spec_l01New_ev c hc
  obtain ⟨l, j1, g1, h1, hl, hj1⟩ := spec_l03Disk_l0 c hc 6 0 [] 0 g (by omega) (by omega) (by simp) (by omega)
  obtain ⟨ac, j2, g2, h2, ha, hj2⟩ := spec_l03Acts_l0 c hc 9 0 [] l j1 g1 (by omega) (by omega) (by simp) (by intro a h; cases h) (by omega) hj1
  obtain ⟨w, j3, g3, e3, hj3⟩ := spec_l01PlaceX c j2 g2 (wrap64 ((ac.length : Int) + 1)) hj2 hc
  obtain ⟨left, j4, g4, h4⟩ := spec_l03Left_l0 c hc 6 0 [] j3 g3 (by omega) (by omega) (by simp) hj3
  refine ⟨l, ac, w, left, ?_, hl, ha⟩
  simp only [spec_DrawCutActs.f]
  refine Ev.bind hg ?_
  simp only [spec_l03Disk.f]
  refine Ev.bind h1 ?_
  simp only [spec_l03Acts.f]
  refine Ev.bind h2 ?_
  simp only [e3, Option.bind_some, spec_l03Left.f]
  refine Ev.bind h4 ?_
  exact Ev.now _

def pActs : List (S66) → List (S35) → Int → List (S66) × Int
  | l, [], i => (l, i)
  | l, a :: r, i => if (pDoAct l a.f0 a.f1 a.f2 a.f3).2 = true then pActs (pDoAct l a.f0 a.f1 a.f2 a.f3).1 r (i + 1) else (l, i)
theorem pActs_len : ∀ (ac : List (S35)) (l : List (S66)) (i : Int), l.length ≤ 1048576 → (pActs l ac i).1.length ≤ 1048576
  | [], _, _, h => h
  | a :: r, l, i, h => by
    rw [pActs]
    split
    · exact pActs_len r _ _ (by have := pDoAct_len l a.f0 a.f1 a.f2 a.f3; omega)
    · exact h
theorem act_mem (ac : List (S35)) (i : Int) (h0 : 0 ≤ i) (c : i < (ac.length : Int)) : rd_T35 ac i ∈ ac := by
  have hlt : i.toNat < ac.length := by omega
  unfold rd_T35
  rw [List.getD_eq_getElem?_getD, List.getElem?_eq_getElem hlt]
  exact List.getElem_mem hlt
theorem impl_DoActs_l0 (ac : List (S35)) (ha : ac.length ≤ 1048576) (ht : ∀ a ∈ ac, a.f2.size ≤ 1048576) : ∀ (d : Nat) (i : Int) (l : List (S66)), 0 ≤ i → i + d = ac.length → l.length ≤ 1048576 →
    Ev (fun k => impl_DoActs.l0 k ac ac (ac.length : Int) i l) (pActs l (ac.drop i.toNat) i) := by
  intro d
  induction d with
  | zero =>
    intro i l h0 h hl
    apply ev_succ
    have c : ¬ i < (ac.length : Int) := by omega
    have e : (ac.length : Int) = i := by omega
    rw [List.drop_of_length_le (by omega)]
    simp only [impl_DoActs.l0, c, if_false]
    rw [e]
    exact Ev.now _
  | succ d ih =>
    intro i l h0 h hl
    apply ev_succ
    have c : i < (ac.length : Int) := by omega
    have e1 : wrap64 (i + 1) = i + 1 := w64 (by omega) (by omega)
    have hm := ht _ (act_mem ac i h0 c)
    have hd : ac.drop i.toNat = rd_T35 ac i :: ac.drop (i + 1).toNat := drop_get ac i h0 c z35
    have q0 : 0 ≤ i + 1 := by omega
    have q1 : i + 1 + d = ac.length := by omega
    rw [hd]
    simp only [impl_DoActs.l0, c, h0, if_true, e1]
    generalize rd_T35 ac i = a at hm ⊢
    have hpl := pDoAct_len l a.f0 a.f1 a.f2 a.f3
    refine Ev.bind (impl_DoAct_ev l a.f0 a.f1 a.f2 a.f3 hl hm) ?_
    rw [pActs]
    by_cases hb : (pDoAct l a.f0 a.f1 a.f2 a.f3).2 = true
    · simp only [hb, if_true]
      exact ih (i + 1) _ q0 q1 (by omega)
    · simp only [hb, if_false]
      exact Ev.now _
theorem impl_DoActs_ev (l : List (S66)) (ac : List (S35)) (hl : l.length ≤ 1048576) (ha : ac.length ≤ 1048576) (ht : ∀ a ∈ ac, a.f2.size ≤ 1048576) : Ev (fun k => impl_DoActs.f k l ac) (pActs l ac 0) := by
  simp only [impl_DoActs.f]
  have h : l.length < 3518437208883 := by omega
  have e0 : (0 : Nat) + l.length = l.length := by omega
  simp only [h, if_true, impl_copyDisk.f, Option.bind_some, List.length_nil, List.nil_append, e0]
  exact impl_DoActs_l0 ac ha ht ac.length 0 l (by omega) (by omega) hl
theorem spec_DoActs_l0 (ac : List (S35)) (ha : ac.length ≤ 1048576) (ht : ∀ a ∈ ac, a.f2.size ≤ 1048576) : ∀ (d : Nat) (i : Int) (l : List (S66)), 0 ≤ i → i + d = ac.length → l.length ≤ 1048576 →
    Ev (fun k => spec_DoActs.l0 k ac i l) (pActs l (ac.drop i.toNat) i) := by
  intro d
  induction d with
  | zero =>
    intro i l h0 h hl
    apply ev_succ
    have c : ¬ i < (ac.length : Int) := by omega
    have e : (ac.length : Int) = i := by omega
    rw [List.drop_of_length_le (by omega)]
    simp only [spec_DoActs.l0, c, if_false]
    rw [e]
    exact Ev.now _
  | succ d ih =>
    intro i l h0 h hl
    apply ev_succ
    have c : i < (ac.length : Int) := by omega
    have e1 : wrap64 (i + 1) = i + 1 := w64 (by omega) (by omega)
    have hm := ht _ (act_mem ac i h0 c)
    have hd : ac.drop i.toNat = rd_T35 ac i :: ac.drop (i + 1).toNat := drop_get ac i h0 c z35
    have q0 : 0 ≤ i + 1 := by omega
    have q1 : i + 1 + d = ac.length := by omega
    rw [hd]
    simp only [spec_DoActs.l0, c, h0, if_true, e1]
    generalize rd_T35 ac i = a at hm ⊢
    have hpl := pDoAct_len l a.f0 a.f1 a.f2 a.f3
    refine Ev.bind (spec_DoAct_ev l a.f0 a.f1 a.f2 a.f3 hl hm) ?_
    rw [pActs]
    by_cases hb : (pDoAct l a.f0 a.f1 a.f2 a.f3).2 = true
    · simp only [hb, if_true]
      exact ih (i + 1) _ q0 q1 (by omega)
    · simp only [hb, if_false]
      exact Ev.now _
theorem spec_DoActs_ev (l : List (S66)) (ac : List (S35)) (hl : l.length ≤ 1048576) (ha : ac.length ≤ 1048576) (ht : ∀ a ∈ ac, a.f2.size ≤ 1048576) : Ev (fun k => spec_DoActs.f k l ac) (pActs l ac 0) := by
  simp only [spec_DoActs.f]
  have h : l.length < 3518437208883 := by omega
  have e0 : (0 : Nat) + l.length = l.length := by omega
  simp only [h, if_true, Option.bind_some, List.length_nil, List.nil_append, e0]
  exact spec_DoActs_l0 ac ha ht ac.length 0 l (by omega) (by omega) hl

def loseN (f : S66) (left : List Int) (i : Int) : Int := if i < left.length then mx f.f2 (mn (rd left i) (f.f1.size : Int)) else f.f2
def loseF (f : S66) (n : Int) : S66 := ⟨f.f0, f.f1.extract 0 n.toNat, n⟩
def pLoseL (left : List Int) : Int → List (S66) → List (S66)
  | _, [] => []
  | i, f :: l => loseF f (loseN f left i) :: pLoseL left (i + 1) l
def pLose (l : List (S66)) (left : List Int) : List (S66) × Bool := if pDiskOk l = true then (pLoseL left 0 l, true) else ([], false)
theorem pLose_yes {l : List (S66)} {left : List Int} (h : pDiskOk l = true) : pLose l left = (pLoseL left 0 l, true) := if_pos h
theorem pLose_no {l : List (S66)} {left : List Int} (h : ¬ pDiskOk l = true) : pLose l left = ([], false) := if_neg h
theorem pLoseL_len (left : List Int) (l : List (S66)) : ∀ i, (pLoseL left i l).length = l.length := by
  induction l with
  | nil => intro i; rfl
  | cons f l ih => intro i; simp [pLoseL, ih]
theorem pLose_len (l : List (S66)) (left : List Int) : (pLose l left).1.length ≤ l.length := by
  unfold pLose
  split
  · simp only [pLoseL_len]; exact Nat.le_refl _
  · simp
theorem pLoseL_get (left : List Int) (l : List (S66)) : ∀ (j : Int) (i : Nat) (f : S66), l[i]? = some f → (pLoseL left j l)[i]? = some (loseF f (loseN f left (j + i))) := by
  induction l with
  | nil => intro j i f h; simp at h
  | cons g l ih =>
    intro j i f h
    cases i with
    | zero =>
      simp only [List.getElem?_cons_zero, Option.some.injEq] at h
      subst h
      simp [pLoseL]
    | succ i =>
      simp only [List.getElem?_cons_succ] at h
      simp only [pLoseL, List.getElem?_cons_succ]
      rw [ih (j + 1) i f h, show j + 1 + (i : Int) = j + ((i + 1 : Nat) : Int) by omega]
theorem rdf_mem (l : List (S66)) (i : Int) (h0 : 0 ≤ i) (h1 : i < l.length) : rd_T66 l i ∈ l := by
  unfold rd_T66
  rw [List.getD_eq_getElem?_getD, List.getElem?_eq_getElem (show i.toNat < l.length by omega)]
  exact List.getElem_mem _
theorem lose_in (a b c : Int) (h0 : 0 ≤ a) (h1 : a ≤ b) : 0 ≤ mx a (mn c b) ∧ mx a (mn c b) ≤ b := by
  unfold mx mn
  constructor <;> split <;> split <;> omega
theorem impl_LoseDisk_ev (l : List (S66)) (left : List Int) (hl : l.length ≤ 1048576) : Ev (fun k => impl_LoseDisk.f k l left) (pLose l left) := by
  simp only [impl_LoseDisk.f]
  refine Ev.bind (impl_DiskOk_ev l hl) ?_
  by_cases h : pDiskOk l = true
  · have hf := (pDiskOk_files h).2
    have e0 : 0 + l.length < 3518437208883 := by omega
    simp only [h, if_true, impl_copyDisk.f, Option.bind_some, List.length_nil, List.nil_append, e0]
    rw [pLose_yes h]
    have key := loop_up (fun k (s : List (S66)) i => impl_LoseDisk.l0 k left l (l.length : Int) i s) (l.length : Int) (pLoseL left 0 l, true)
      (fun s i => s.length = l.length ∧ s.take i.toNat = (pLoseL left 0 l).take i.toNat)
      (fun s hs => by
        obtain ⟨hb, ht⟩ := hs
        have c : ¬ (l.length : Int) < (l.length : Int) := by omega
        simp only [impl_LoseDisk.l0, c, if_false]
        apply ev_some
        rw [List.take_of_length_le (by omega), List.take_of_length_le (by rw [pLoseL_len]; omega)] at ht
        rw [ht])
      (fun s i h0 h1 hs ih => by
        obtain ⟨hb, ht⟩ := hs
        have c2 : i < (s.length : Int) := by omega
        have ei : wrap64 (i + 1) = i + 1 := w64 (by omega) (by omega)
        have hm := hf _ (rdf_mem l i h0 h1)
        have n0 := hm.2.2.1
        have n1 := hm.2.2.2
        have hn := ih (s.set i.toNat (loseF (rd_T66 l i) (loseN (rd_T66 l i) left i))) ⟨by simp [hb], by
          rw [show (i + 1).toNat = i.toNat + 1 by omega]
          refine take_set (pLoseL left 0 l) s i.toNat _ (by rw [pLoseL_len]; exact hb) (by rw [pLoseL_len]; omega) ht ?_
          rw [pLoseL_get left l 0 i.toNat (rd_T66 l i) (getElem_rd l i h0 h1 z66), show (0 : Int) + ((i.toNat : Nat) : Int) = i by omega]⟩
        simp only [impl_LoseDisk.l0, h1, h0, c2, if_true, ei]
        by_cases hc : i < (left.length : Int)
        · have m := lose_in _ _ (rd left i) n0 n1
          simp only [hc, if_true, m.1, m.2]
          rw [loseN, if_pos hc, loseF] at hn
          exact hn
        · simp only [hc, if_false, n0, n1, if_true]
          rw [loseN, if_neg hc, loseF] at hn
          exact hn)
    exact key l.length 0 l (by omega) (by omega) ⟨rfl, by simp⟩
  · rw [pLose_no h]
    simp only [h, if_false]
    exact Ev.now _

theorem spec_LoseDisk_j1 (l out : List (S66)) (left : List Int) (i n N : Int) (f : S66) (R : List (S66) × Bool) (k0 : 0 ≤ f.f2) (ks : f.f2 ≤ (f.f1.size : Int)) (ho : out.length < 3518437208883) (ei : wrap64 (i + 1) = i + 1)
    (hN : N = mx f.f2 (mn n (f.f1.size : Int))) (hnext : Ev (fun k => spec_LoseDisk.l0 k left (i + 1) l (out ++ [loseF f N])) R) :
    Ev (fun k => spec_LoseDisk.j1 k left i n l out f.f0 f.f1 f.f2) R := by
  apply ev_succ
  simp only [spec_LoseDisk.j1, ho, ei, if_true]
  rw [loseF] at hnext
  by_cases a : n > (f.f1.size : Int)
  · have b : ¬ (f.f1.size : Int) < f.f2 := by omega
    have z : (0 : Int) ≤ (f.f1.size : Int) := by omega
    have z2 : (f.f1.size : Int) ≤ (f.f1.size : Int) := Int.le_refl _
    have e : N = (f.f1.size : Int) := by rw [hN]; unfold mx mn; split <;> split <;> omega
    rw [e] at hnext
    simp only [a, b, z, z2, if_true, if_false]
    exact hnext
  · by_cases b : n < f.f2
    · have e : N = f.f2 := by rw [hN]; unfold mx mn; split <;> split <;> omega
      rw [e] at hnext
      simp only [a, b, k0, ks, if_true, if_false]
      exact hnext
    · have e : N = n := by rw [hN]; unfold mx mn; split <;> split <;> omega
      have z : 0 ≤ n := by omega
      rw [e] at hnext
      simp only [a, b, z, if_true, if_false]
      exact hnext
theorem spec_LoseDisk_l0 (l : List (S66)) (left : List Int) (hl : l.length ≤ 1048576) (hf : ∀ f ∈ l, 0 ≤ f.f2 ∧ f.f2 ≤ (f.f1.size : Int)) : ∀ (d : Nat) (i : Int) (out R : List (S66)), 0 ≤ i → i + d = l.length → (out.length : Int) ≤ i → out ++ pLoseL left i (l.drop i.toNat) = R →
    Ev (fun k => spec_LoseDisk.l0 k left i l out) (R, true) := by
  intro d
  induction d with
  | zero =>
    intro i out R h0 h ho hR
    apply ev_succ
    have c : ¬ i < (l.length : Int) := by omega
    simp only [spec_LoseDisk.l0, c, if_false]
    rw [List.drop_of_length_le (by omega), pLoseL, List.append_nil] at hR
    rw [hR]
    exact Ev.now _
  | succ d ih =>
    intro i out R h0 h ho hR
    apply ev_succ
    have c : i < (l.length : Int) := by omega
    have ei : wrap64 (i + 1) = i + 1 := w64 (by omega) (by omega)
    have hm := hf _ (rdf_mem l i h0 c)
    rw [drop_file l i h0 c, pLoseL] at hR
    have hn := ih (i + 1) (out ++ [loseF (rd_T66 l i) (loseN (rd_T66 l i) left i)]) R (by omega) (by omega) (by rw [List.length_append, List.length_singleton]; omega) (by rw [List.append_assoc]; exact hR)
    simp only [spec_LoseDisk.l0, c, h0, if_true]
    by_cases hc : i < (left.length : Int)
    · simp only [hc, if_true]
      refine spec_LoseDisk_j1 l out left i _ _ (rd_T66 l i) _ hm.1 hm.2 (by omega) ei ?_ hn
      rw [loseN, if_pos hc]
    · simp only [hc, if_false]
      refine spec_LoseDisk_j1 l out left i _ _ (rd_T66 l i) _ hm.1 hm.2 (by omega) ei ?_ hn
      rw [loseN, if_neg hc]
      obtain ⟨x, hx⟩ : ∃ x, (rd_T66 l i).f2 = x := ⟨_, rfl⟩
      obtain ⟨y, hy⟩ : ∃ y, ((rd_T66 l i).f1.size : Int) = y := ⟨_, rfl⟩
      rw [hx, hy] at hm
      rw [hx, hy]
      unfold mx mn
      split <;> split <;> omega
theorem spec_LoseDisk_ev (l : List (S66)) (left : List Int) (hl : l.length ≤ 1048576) : Ev (fun k => spec_LoseDisk.f k l left) (pLose l left) := by
  simp only [spec_LoseDisk.f]
  refine Ev.bind (spec_DiskOk_ev l hl) ?_
  by_cases h : pDiskOk l = true
  · have hf := (pDiskOk_files h).2
    simp only [h, if_true]
    rw [pLose_yes h]
    exact spec_LoseDisk_l0 l left hl (fun f hm => (hf f hm).2.2) l.length 0 [] _ (by omega) (by omega) (by simp) (by simp)
  · rw [pLose_no h]
    simp only [h, if_false]
    exact Ev.now _

def pCut (l : List (S66)) (ac : List (S35)) (w : Int) (left : List Int) : List (S66) × Bool :=
  if 0 ≤ w ∧ w ≤ (ac.length : Int) then (if (pActs l (ac.take w.toNat) 0).2 < w then ([], false) else pLose (pActs l (ac.take w.toNat) 0).1 left) else ([], false)
theorem pCut_len (l : List (S66)) (ac : List (S35)) (w : Int) (left : List Int) (hl : l.length ≤ 1048576) : (pCut l ac w left).1.length ≤ 1048576 := by
  unfold pCut
  split
  · split
    · show ([] : List (S66)).length ≤ _
      rw [List.length_nil]; omega
    · have h1 := pActs_len (ac.take w.toNat) l 0 hl
      have h2 := pLose_len (pActs l (ac.take w.toNat) 0).1 left
      omega
  · show ([] : List (S66)).length ≤ _
    rw [List.length_nil]; omega
theorem impl_CutActs_ev (l : List (S66)) (ac : List (S35)) (w : Int) (left : List Int) (hl : l.length ≤ 1048576) (ha : ac.length ≤ 1048576) (ht : ∀ a ∈ ac, a.f2.size ≤ 1048576) : Ev (fun k => impl_CutActs.f k l ac w left) (pCut l ac w left) := by
  simp only [impl_CutActs.f]
  refine Ev.bind (impl_within_ev _ _ _) ?_
  unfold pCut
  by_cases c : 0 ≤ w ∧ w ≤ (ac.length : Int)
  · rw [if_pos c]
    simp only [c.1, c.2, and_self, decide_true, if_true]
    have hta : (ac.take w.toNat).length ≤ 1048576 := by rw [List.length_take]; omega
    have hpl := pActs_len (ac.take w.toNat) l 0 hl
    refine Ev.bind (impl_DoActs_ev l (ac.take w.toNat) hl hta (fun a hx => ht a (List.mem_of_mem_take hx))) ?_
    by_cases d : (pActs l (ac.take w.toNat) 0).2 < w
    · simp only [d, if_true]
      exact Ev.now _
    · simp only [d, if_false]
      refine Ev.bind (impl_LoseDisk_ev _ left hpl) ?_
      exact Ev.now _
  · rw [if_neg c]
    simp only [c, decide_false, Bool.false_eq_true, if_false]
    exact Ev.now _
theorem spec_CutActs_ev (l : List (S66)) (ac : List (S35)) (w : Int) (left : List Int) (hl : l.length ≤ 1048576) (ha : ac.length ≤ 1048576) (ht : ∀ a ∈ ac, a.f2.size ≤ 1048576) : Ev (fun k => spec_CutActs.f k l ac w left) (pCut l ac w left) := by
  simp only [spec_CutActs.f]
  refine Ev.bind (spec_l01In_ev _ _ _) ?_
  unfold pCut
  by_cases c : 0 ≤ w ∧ w ≤ (ac.length : Int)
  · rw [if_pos c]
    simp only [c.1, c.2, and_self, decide_true, if_true]
    have hta : (ac.take w.toNat).length ≤ 1048576 := by rw [List.length_take]; omega
    have hpl := pActs_len (ac.take w.toNat) l 0 hl
    refine Ev.bind (spec_DoActs_ev l (ac.take w.toNat) hl hta (fun a hx => ht a (List.mem_of_mem_take hx))) ?_
    by_cases d : (pActs l (ac.take w.toNat) 0).2 < w
    · simp only [d, if_true]
      exact Ev.now _
    · simp only [d, if_false]
      refine Ev.bind (spec_LoseDisk_ev _ left hpl) ?_
      exact Ev.now _
  · rw [if_neg c]
    simp only [c, decide_false, Bool.false_eq_true, if_false]
    exact Ev.now _

theorem impl_FileAt_ev (l : List (S66)) (n : ByteArray) : Ev (fun _ => impl_FileAt.f l n) (pFileAt l n) := by
  apply ev_const
  have h := pAtF_in n l 0
  have hp : impl_placeOf.f l n = some (pAt l n) := rfl
  simp only [impl_FileAt.f, hp, Option.bind_some]
  unfold pFileAt
  by_cases c : pAt l n < 0
  · rw [if_pos c, if_pos c]
  · have h' : 0 ≤ pAt l n ∧ pAt l n < (l.length : Int) := by unfold pAt at c ⊢; omega
    rw [if_neg c, if_neg c, if_pos h'.1, if_pos h'.2]

theorem pActs_ge : ∀ (ac : List (S35)) (l : List (S66)) (i : Int), i ≤ (pActs l ac i).2 ∧ (pActs l ac i).2 ≤ i + ac.length
  | [], _, i => ⟨Int.le_refl _, by show i ≤ i + _; simp⟩
  | a :: r, l, i => by
    rw [pActs]
    split
    · have := pActs_ge r (pDoAct l a.f0 a.f1 a.f2 a.f3).1 (i + 1)
      rw [List.length_cons]
      omega
    · rw [List.length_cons]
      refine ⟨Int.le_refl _, ?_⟩
      show i ≤ _
      omega
/-- What stands before the last act that is done: one more is done. -/
theorem pActs_step {ac : List (S35)} {l p : List (S66)} {i n : Int} (h0 : 0 ≤ i) (hl : i < (ac.length : Int)) (h : pActs l (ac.drop i.toNat) i = (p, n)) (hi : i < n) :
    (pDoAct l (rd_T35 ac i).f0 (rd_T35 ac i).f1 (rd_T35 ac i).f2 (rd_T35 ac i).f3).2 = true ∧ pActs (pDoAct l (rd_T35 ac i).f0 (rd_T35 ac i).f1 (rd_T35 ac i).f2 (rd_T35 ac i).f3).1 (ac.drop (i + 1).toNat) (i + 1) = (p, n) := by
  have hd : ac.drop i.toNat = rd_T35 ac i :: ac.drop (i + 1).toNat := drop_get ac i h0 hl z35
  rw [hd, pActs] at h
  split at h
  · rename_i c
    exact ⟨c, h⟩
  · injection h with _ h
    omega
theorem pActs_end {ac : List (S35)} {l p : List (S66)} {n : Int} (h : pActs l ac n = (p, n)) : l = p := by
  cases ac with
  | nil => injection h
  | cons a r =>
    rw [pActs] at h
    split at h
    · have := (pActs_ge r (pDoAct l a.f0 a.f1 a.f2 a.f3).1 (n + 1)).1
      rw [h] at this
      simp only at this
      omega
    · injection h
theorem pAtF_neg (n : ByteArray) : ∀ (l : List (S66)) (i : Nat), pAtF n l i < 0 → ∀ f ∈ l, f.f0.toList ≠ n.toList
  | [], _, _, f, hf => by cases hf
  | x :: r, i, h, f, hf => by
    rw [pAtF_cons] at h
    by_cases c : (x.f0.toList == n.toList) = true
    · rw [if_pos c] at h
      omega
    · rw [if_neg c] at h
      rcases List.mem_cons.1 hf with rfl | hf
      · simpa using c
      · exact pAtF_neg n r (i + 1) h f hf
theorem pair_one : ∀ (l : List (S66)), l.Pairwise (fun a b => ltF a b = true) → ∀ f ∈ l, ∀ g ∈ l, f.f0.toList = g.f0.toList → f = g
  | [], _, f, hf, _, _, _ => by cases hf
  | x :: r, h, f, hf, g, hg, e => by
    rw [List.pairwise_cons] at h
    have no : ∀ y ∈ r, x.f0.toList ≠ y.f0.toList := fun y hy q => by
      have := h.1 y hy
      unfold ltF at this
      rw [q, bl_irrefl] at this
      cases this
    rcases List.mem_cons.1 hf with hf | hf
    · rcases List.mem_cons.1 hg with hg | hg
      · rw [hf, hg]
      · exact absurd (by rw [← hf]; exact e) (no g hg)
    · rcases List.mem_cons.1 hg with hg | hg
      · exact absurd (by rw [← hg]; exact e.symm) (no f hf)
      · exact pair_one r h.2 f hf g hg e
theorem fileAt_mem {l : List (S66)} {n : ByteArray} {f : S66} (h : pDiskOk l = true) (hf : f ∈ l) (e : f.f0.toList = n.toList) : pFileAt l n = (f.f1, true) := by
  have c : ¬ pAt l n < 0 := fun c => pAtF_neg n l 0 c f hf e
  have h2 := pAt_get l n c
  have hm := rd_mem l _ h2.1 h2.2
  have hn := pAt_name l n c
  have := pair_one l (pDiskOk_pair h).2.2 _ hm f hf (hn.trans e.symm)
  unfold pFileAt
  rw [if_neg c, this]
theorem pOf_name (l : List (S66)) (n : ByteArray) : (pOf l n).f0.toList = n.toList := by
  unfold pOf
  split
  · rfl
  · rename_i c
    exact pAt_name l n c
theorem pOf_text (l : List (S66)) (n : ByteArray) : (pOf l n).f1 = (pFileAt l n).1 := by
  unfold pOf pFileAt
  split <;> rfl
theorem okOut_yes {l r : List (S66)} (h : okOut l = (r, true)) : r = l ∧ pDiskOk l = true := by
  unfold okOut at h
  split at h
  · rename_i c
    injection h with h
    exact ⟨h.symm, c⟩
  · injection h with _ h
    cases h
theorem act_add {l r : List (S66)} {n t o : ByteArray} (h : pDoAct l 1 n t o = (r, true)) : pFileAt r n = ((pFileAt l n).1 ++ t, true) := by
  unfold pDoAct at h
  split at h
  · rw [if_pos rfl] at h
    split at h
    · obtain ⟨rfl, hr⟩ := okOut_yes h
      rw [← pOf_text]
      exact fileAt_mem hr (pPut_mem _ _) (pOf_name l n)
    · injection h with _ h
      cases h
  · injection h with _ h
    cases h
theorem act_drop {l r : List (S66)} {n t o : ByteArray} (h : pDoAct l 4 n t o = (r, true)) : (pFileAt r n).2 = false := by
  unfold pDoAct at h
  have no : ∀ {x : List (S66)}, ((x, false) : List (S66) × Bool) ≠ (r, true) := fun e => by injection e with _ e; cases e
  split at h
  · rw [if_neg (by decide)] at h
    split at h
    · exact absurd h no
    · rw [if_neg (by decide), if_neg (by decide), if_pos rfl] at h
      split at h
      · obtain ⟨rfl, hr⟩ := okOut_yes h
        have c : pAt (pWithout l n) n < 0 := by
          refine Classical.not_not.1 (fun c => ?_)
          have h2 := pAt_get (pWithout l n) n c
          have hm := rd_mem _ _ h2.1 h2.2
          have hn := pAt_name (pWithout l n) n c
          have hk := (List.mem_filter.1 hm).2
          unfold keepF at hk
          rw [hn] at hk
          simp at hk
        unfold pFileAt
        rw [if_pos c]
      · exact absurd h no
  · exact absurd h no

theorem laws_sameDisk_l0 (l : List (S66)) (hl : l.length ≤ 1048576) : ∀ (d : Nat) (i : Int), 0 ≤ i → i + d = l.length → Ev (fun k => laws_sameDisk.l0 k i l l) true := by
  intro d
  induction d with
  | zero =>
    intro i h0 hd
    have c : ¬ i < (l.length : Int) := by omega
    refine ev_succ ?_
    simp only [laws_sameDisk.l0, c, if_false]
    exact Ev.now _
  | succ d ih =>
    intro i h0 hd
    have c : i < (l.length : Int) := by omega
    have e1 : wrap64 (i + 1) = i + 1 := w64 (by omega) (by omega)
    refine ev_succ ?_
    simp only [laws_sameDisk.l0, c, h0, if_true, beq_self_eq_true, Bool.not_true, Bool.or_self, Bool.false_eq_true, if_false, e1]
    exact ih (i + 1) (by omega) (by omega)
theorem laws_sameDisk_ev (l : List (S66)) (hl : l.length ≤ 1048576) : Ev (fun k => laws_sameDisk.f k l l) true := by
  simp only [laws_sameDisk.f, if_true]
  exact laws_sameDisk_l0 l hl l.length 0 (by omega) (by omega)
theorem act_disk {l : List (S66)} {k : Int} {n t o : ByteArray} (h : (pDoAct l k n t o).2 = true) : pDiskOk l = true := by
  unfold pDoAct at h
  split at h
  · assumption
  · cases h
theorem fileAt_size (l : List (S66)) (n : ByteArray) (h : pDiskOk l = true) : (pFileAt l n).1.size ≤ 20000 := by
  unfold pFileAt
  split
  · decide
  · rename_i c
    have h2 := pAt_get l n c
    exact ((pDiskOk_files h).2 _ (rd_mem l _ h2.1 h2.2)).2.1
theorem laws_FnActs_l0 (l p : List (S66)) (ac : List (S35)) (w n : Int) (left : List Int) (hl : l.length ≤ 1048576) (hp : p.length ≤ 1048576) (ha : ac.length ≤ 1048576) (ht : ∀ a ∈ ac, a.f2.size ≤ 1048576) (hn : n ≤ (ac.length : Int)) :
    ∀ (d : Nat) (i : Int) (c : List (S66)), 0 ≤ i → i + d = n → c.length ≤ 1048576 → pActs c (ac.drop i.toNat) i = (p, n) → Ev (fun k => laws_FnActs.l0 k ac w left n i l p c) true := by
  intro d
  induction d with
  | zero =>
    intro i c h0 hd hc h
    have hi : i = n := by omega
    subst hi
    have e := pActs_end h
    subst e
    refine ev_succ ?_
    simp only [laws_FnActs.l0, Int.lt_irrefl, if_false]
    refine Ev.bind (impl_CutActs_ev l ac w left hl ha ht) ?_
    refine Ev.bind (spec_CutActs_ev l ac w left hl ha ht) ?_
    simp only [beq_self_eq_true, if_true]
    refine Ev.bind (laws_sameDisk_ev _ (pCut_len l ac w left hl)) ?_
    simp only [if_true]
    by_cases c0 : i = 0
    · simp only [c0, if_true]
      exact Ev.now _
    · simp only [c0, if_false]
      refine Ev.bind (laws_sameDisk_ev c hc) ?_
      exact Ev.now _
  | succ d ih =>
    intro i c h0 hd hc h
    have hi : i < n := by omega
    have hlt : i < (ac.length : Int) := by omega
    have e1 : wrap64 (i + 1) = i + 1 := w64 (by omega) (by omega)
    obtain ⟨hok, hnext⟩ := pActs_step h0 hlt h hi
    have hm : rd_T35 ac i ∈ ac := by
      have hk : i.toNat < ac.length := by omega
      unfold rd_T35
      rw [List.getD_eq_getElem?_getD, List.getElem?_eq_getElem hk]
      exact List.getElem_mem hk
    have hts := ht _ hm
    refine ev_succ ?_
    simp only [laws_FnActs.l0, hi, h0, hlt, if_true, e1]
    generalize rd_T35 ac i = a at hok hnext hts ⊢
    obtain ⟨kd, nm, tx, to_⟩ := a
    simp only at hok hnext hts ⊢
    have hD := impl_DoAct_ev c kd nm tx to_ hc hts
    have hdk := act_disk hok
    have hsz := fileAt_size c nm hdk
    have hlen := pDoAct_len c kd nm tx to_
    obtain ⟨q, o, hq⟩ : ∃ q o, pDoAct c kd nm tx to_ = (q, o) := ⟨_, _, rfl⟩
    rw [hq] at hD hok hnext hlen
    simp only at hok hnext hlen
    subst hok
    refine Ev.bind hD ?_
    simp only [if_true]
    refine Ev.bind (impl_FileAt_ev c nm) ?_
    refine Ev.bind (impl_FileAt_ev q nm) ?_
    have key := ih (i + 1) q (by omega) (by omega) (by omega) hnext
    by_cases k1 : kd = 1
    · subst k1
      have hadd := act_add hq
      rw [hadd]
      have cs : (pFileAt c nm).1.size + tx.size ≤ 9223372036854775807 := by omega
      have n4 : ¬ (1 : Int) = 4 := by decide
      simp only [if_true, cs, n4, if_false]
      exact key
    · by_cases k4 : kd = 4
      · subst k4
        have hdrop := act_drop hq
        simp only [k1, if_false, if_true, hdrop, Bool.false_eq_true]
        exact key
      · simp only [k1, k4, if_false]
        exact key
theorem FnActs : laws_FnActs.Pure := by
  intro c hc _ _
  apply ev_rounds
  simp only [laws_FnActs.f, laws_big.f, Option.bind_some]
  by_cases cb : (c.length : Int) > 1048576
  · simp only [cb, decide_true, if_true]
    exact Ev.now _
  simp only [cb, decide_false, Bool.false_eq_true, if_false]
  obtain ⟨l, ac, w, left, hD, hl, ha, ht⟩ := spec_DrawCutActs_ev c (by omega)
  have ht' : ∀ a ∈ ac, a.f2.size ≤ 1048576 := fun a h => Nat.le_trans (ht a h) (by decide)
  refine Ev.bind hD ?_
  have hI := impl_DoActs_ev l ac (by omega) (by omega) ht'
  have hS := spec_DoActs_ev l ac (by omega) (by omega) ht'
  have hpl := pActs_len ac l 0 (by omega)
  have hge := pActs_ge ac l 0
  obtain ⟨p, n, hp⟩ : ∃ p n, pActs l ac 0 = (p, n) := ⟨_, _, rfl⟩
  rw [hp] at hI hS hpl hge
  simp only at hpl hge
  refine Ev.bind hI ?_
  refine Ev.bind hS ?_
  simp only [if_true]
  refine Ev.bind (laws_sameDisk_ev p hpl) ?_
  apply ev_succ
  simp only [laws_FnActs.j0, Bool.not_true, Bool.false_eq_true, if_false]
  exact laws_FnActs_l0 l p ac w n left (by omega) hpl (by omega) ht' (by omega) n.toNat 0 l (by omega) (by omega) (by omega) (by simpa using hp)

end Go.Proofs.Ytklbkkoojkmjbaa.Pure
