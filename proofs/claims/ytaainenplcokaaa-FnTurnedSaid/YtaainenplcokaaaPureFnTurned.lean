/- A drawn text is sealed and unsealed; with one byte turned it is refused; the sum goes on where it stopped: for every code. -/
import Derived.Test.YtaainenplcokaaaQFnTurnedx3
import Derived.Test.YtaainenplcokaaaBaseC
import Derived.Test.YtaainenplcokaaaBaseS
import Derived.Test.YtaainenplcokaaaBaseD
namespace Go.Proofs.Ytaainenplcokaaa.Pure
open Go.RowKit Go.Proofs.Ytaainenplcokaaa.QFnTurned Go.Proofs.YtaainenplcokaaaW.PrintWords Go.Proofs.YtaainenplcokaaaW.PrintLast Go.Proofs.YtaainenplcokaaaW.PrintMore Go.Proofs.Ytaainenplcokaaa.Base
set_option linter.unusedVariables false
set_option linter.unusedSimpArgs false

theorem spec_l01New_l0 (l : List Int) (hl : l.length ≤ 140737488355328) : ∀ (d : Nat) (i h : Int), 0 ≤ i → i + d = l.length → ∃ g : Int, Ev (fun k => spec_l01New.l0 k l h i) (l, 0, g) := by
  intro d
  induction d with
  | zero =>
    intro i h h0 hd
    refine ⟨h, ev_succ ?_⟩
    have c : ¬ i < (l.length : Int) := by omega
    simp only [spec_l01New.l0, c, if_false]
    exact Ev.now _
  | succ d ih =>
    intro i h h0 hd
    have c : i < (l.length : Int) := by omega
    by_cases c2 : i < 4000
    · obtain ⟨g, hg⟩ := ih (i + 1) (Go.bits .and .i64 (wrap64 ((wrap64 ((wrap64 (h * 131)) + (wrap64 (rd l i)))) + 7)) 1073741823) (by omega) (by omega)
      refine ⟨g, ev_succ ?_⟩
      have e : wrap64 (i + 1) = i + 1 := w64 (by omega) (by omega)
      simp only [spec_l01New.l0, c, c2, h0, if_true, e]
      exact hg
    · refine ⟨h, ev_succ ?_⟩
      simp only [spec_l01New.l0, c, c2, if_true, if_false]
      exact Ev.now _
theorem spec_l01New_ev (l : List Int) (hl : l.length ≤ 140737488355328) : ∃ g : Int, Ev (fun k => spec_l01New.f k l) (l, 0, g) := by
  obtain ⟨g, hg⟩ := spec_l01New_l0 l hl l.length 0 (wrap64 (37401 + (l.length : Int))) (by omega) (by omega)
  exact ⟨g, by simp only [spec_l01New.f]; exact hg⟩
theorem spec_l01Byte_ev (s : List Int) (i h : Int) (hi : 0 ≤ i ∧ i ≤ s.length) (hs : s.length ≤ 140737488355328) : ∃ x j g, spec_l01Byte.f s i h = some (x, j, g) ∧ (0 ≤ x ∧ x ≤ 255) ∧ 0 ≤ j ∧ j ≤ (s.length : Int) := by
  by_cases c : i < (s.length : Int)
  · have e : wrap64 (i + 1) = i + 1 := w64 (by omega) (by omega)
    refine ⟨_, i + 1, _, by simp only [spec_l01Byte.f, c, hi.1, if_true, e]; rfl, and255 _, by omega, by omega⟩
  · refine ⟨_, i, _, by simp only [spec_l01Byte.f, c, if_false]; rfl, and255 _, hi⟩
theorem spec_l01Below_ev (s : List Int) (i h n : Int) (hi : 0 ≤ i ∧ i ≤ s.length) (hs : s.length ≤ 140737488355328) : ∃ x j g, spec_l01Below.f s i h n = some (x, j, g) ∧ (n ≤ 0 → x = 0) ∧ (0 < n → 0 ≤ x ∧ x < n) ∧ 0 ≤ j ∧ j ≤ (s.length : Int) := by
  by_cases c1 : n ≤ 0
  · exact ⟨0, i, h, by simp only [spec_l01Below.f, c1, if_true], fun _ => rfl, fun h => by omega, hi⟩
  have c3 : ¬ n = 0 := by omega
  by_cases c2 : n ≤ 256
  · obtain ⟨x, j, g, e, hx, hj⟩ := spec_l01Byte_ev s i h hi hs
    refine ⟨Int.tmod x n, j, g, by simp only [spec_l01Below.f, c1, c2, c3, if_true, if_false, e, Option.bind_some], fun h => absurd h c1, fun hn => tmod_in hx.1 hn, hj⟩
  · obtain ⟨x1, j1, g1, e1, hx1, hj1⟩ := spec_l01Byte_ev s i h hi hs
    obtain ⟨x2, j2, g2, e2, hx2, hj2⟩ := spec_l01Byte_ev s j1 g1 hj1 hs
    obtain ⟨x3, j3, g3, e3, hx3, hj3⟩ := spec_l01Byte_ev s j2 g2 hj2 hs
    obtain ⟨x4, j4, g4, e4, hx4, hj4⟩ := spec_l01Byte_ev s j3 g3 hj3 hs
    have f1 : wrap64 (x1 * 16777216) = x1 * 16777216 := w64 (by omega) (by omega)
    have f2 : wrap64 (x2 * 65536) = x2 * 65536 := w64 (by omega) (by omega)
    have f3 : wrap64 (x3 * 256) = x3 * 256 := w64 (by omega) (by omega)
    have f4 : wrap64 (x1 * 16777216 + x2 * 65536) = x1 * 16777216 + x2 * 65536 := w64 (by omega) (by omega)
    have f5 : wrap64 (x1 * 16777216 + x2 * 65536 + x3 * 256) = x1 * 16777216 + x2 * 65536 + x3 * 256 := w64 (by omega) (by omega)
    have f6 : wrap64 (x1 * 16777216 + x2 * 65536 + x3 * 256 + x4) = x1 * 16777216 + x2 * 65536 + x3 * 256 + x4 := w64 (by omega) (by omega)
    refine ⟨Int.tmod (x1 * 16777216 + x2 * 65536 + x3 * 256 + x4) n, j4, g4, by simp only [spec_l01Below.f, c1, c2, c3, if_false, e1, e2, e3, e4, Option.bind_some, f1, f2, f3, f4, f5, f6], fun h => absurd h c1, fun hn => tmod_in (by omega) hn, hj4⟩

theorem spec_DrawPlaces_l0 (s : List Int) (hs : s.length ≤ 140737488355328) : ∀ (d : Nat) (i : Int) (acc : List Int) (j g : Int), 0 ≤ i → i + d = 12 → (acc.length : Int) = i → (∀ x ∈ acc, 0 ≤ x ∧ x < 10000) → 0 ≤ j ∧ j ≤ (s.length : Int) →
    ∃ p : List Int, Ev (fun k => spec_DrawPlaces.l0 k acc i s j g) p ∧ p.length = 12 ∧ ∀ x ∈ p, 0 ≤ x ∧ x < 10000 := by
  intro d
  induction d with
  | zero =>
    intro i acc j g h0 hd hl ha hj
    refine ⟨acc, ev_succ ?_, by omega, ha⟩
    have c : ¬ i < 12 := by omega
    simp only [spec_DrawPlaces.l0, c, if_false]
    exact Ev.now _
  | succ d ih =>
    intro i acc j g h0 hd hl ha hj
    have c : i < 12 := by omega
    obtain ⟨x, j2, g2, e, _, hx, hj2⟩ := spec_l01Below_ev s j g 10000 hj hs
    have hx' := hx (by decide)
    obtain ⟨p, hp, hp2⟩ := ih (i + 1) (acc ++ [x]) j2 g2 (by omega) (by omega) (by rw [List.length_append]; simp; omega) (fun y hy => by
      rcases List.mem_append.1 hy with h | h
      · exact ha y h
      · rw [List.mem_singleton] at h; subst h; exact hx') hj2
    refine ⟨p, ev_succ ?_, hp2⟩
    have e1 : wrap64 (i + 1) = i + 1 := w64 (by omega) (by omega)
    have c2 : acc.length < 17592186044416 := by omega
    simp only [spec_DrawPlaces.l0, c, if_true, e, Option.bind_some, c2, e1]
    exact hp
theorem spec_DrawPlaces_ev (l : List Int) (hl : l.length ≤ 140737488355328) : ∃ p : List Int, Ev (fun k => spec_DrawPlaces.f k l) p ∧ p.length = 12 ∧ ∀ x ∈ p, 0 ≤ x ∧ x < 10000 := by
  obtain ⟨g, hg⟩ := spec_l01New_ev l hl
  obtain ⟨x, j, g2, e, _, hj⟩ := spec_l01Byte_ev l 0 g (by omega) hl
  obtain ⟨p, hp, hp2⟩ := spec_DrawPlaces_l0 l hl 12 0 [] j g2 (by omega) (by omega) rfl (fun y hy => by simp at hy) hj
  refine ⟨p, ?_, hp2⟩
  simp only [spec_DrawPlaces.f]
  refine Ev.bind hg ?_
  simp only [e, Option.bind_some]
  exact hp

theorem spec_l01Text_l0 (s : List Int) (hs : s.length ≤ 140737488355328) (n : Int) (hn : n ≤ 5000) : ∀ (d : Nat) (i : Int) (acc : List Int) (j g : Int), 0 ≤ i → i + d = n → (acc.length : Int) = i → 0 ≤ j ∧ j ≤ (s.length : Int) →
    ∃ t j2 g2, Ev (fun k => spec_l01Text.l0 k n acc i s j g) (t, j2, g2) ∧ (t.size : Int) = n ∧ 0 ≤ j2 ∧ j2 ≤ (s.length : Int) := by
  intro d
  induction d with
  | zero =>
    intro i acc j g h0 hd hl hj
    refine ⟨strOfNums acc, j, g, ev_succ ?_, by rw [str_len]; omega, hj⟩
    have c : ¬ i < n := by omega
    simp only [spec_l01Text.l0, c, if_false]
    exact Ev.now _
  | succ d ih =>
    intro i acc j g h0 hd hl hj
    have c : i < n := by omega
    obtain ⟨x, j2, g2, e, _, hj2⟩ := spec_l01Byte_ev s j g hj hs
    obtain ⟨t, j3, g3, hp, hp2⟩ := ih (i + 1) (acc ++ [x % 256]) j2 g2 (by omega) (by omega) (by rw [List.length_append]; simp; omega) hj2
    refine ⟨t, j3, g3, ev_succ ?_, hp2⟩
    have e1 : wrap64 (i + 1) = i + 1 := w64 (by omega) (by omega)
    have c2 : acc.length < 140737488355328 := by omega
    simp only [spec_l01Text.l0, c, if_true, e, Option.bind_some, c2, e1]
    exact hp
theorem spec_l01Text_ev (s : List Int) (i h n : Int) (hi : 0 ≤ i ∧ i ≤ s.length) (hs : s.length ≤ 140737488355328) (hn : 0 ≤ n) : ∃ t j g, Ev (fun k => spec_l01Text.f k s i h n) (t, j, g) ∧ (t.size : Int) ≤ n ∧ (t.size : Int) ≤ 5000 ∧ 0 ≤ j ∧ j ≤ (s.length : Int) := by
  by_cases c : n > 5000
  · obtain ⟨t, j, g, hp, h1, h2⟩ := spec_l01Text_l0 s hs 5000 (by omega) 5000 0 [] i h (by omega) (by omega) rfl hi
    refine ⟨t, j, g, ?_, by omega, by omega, h2⟩
    simp only [spec_l01Text.f, c, if_true]
    apply ev_succ
    simp only [spec_l01Text.j0]
    exact hp
  · obtain ⟨t, j, g, hp, h1, h2⟩ := spec_l01Text_l0 s hs n (by omega) n.toNat 0 [] i h (by omega) (by omega) rfl hi
    refine ⟨t, j, g, ?_, by omega, by omega, h2⟩
    simp only [spec_l01Text.f, c, if_false]
    apply ev_succ
    simp only [spec_l01Text.j0]
    exact hp

theorem impl_SumMore_l1 (s : ByteArray) (i : Int) (h0 : 0 ≤ i) (h1 : i < s.size) (hs : s.size ≤ 140737488351232) (r : Int) : ∀ (m : Nat) (j x : Int), 0 ≤ j → j + m = 8 →
    Ev (fun k => impl_SumMore.l0 k (crcK m x) s (i + 1)) r → Ev (fun k => impl_SumMore.l1 k x s i j) r := by
  intro m
  induction m with
  | zero =>
    intro j x hj hm h
    apply ev_succ
    have c : ¬ j < 8 := by omega
    have e : wrap64 (i + 1) = i + 1 := w64 (by omega) (by omega)
    simp only [impl_SumMore.l1, c, if_false, e]
    exact h
  | succ m ih =>
    intro j x hj hm h
    apply ev_succ
    have c : j < 8 := by omega
    have e : wrap64 (j + 1) = j + 1 := w64 (by omega) (by omega)
    have hh := ih (j + 1) (crc1 x) (by omega) (by omega) h
    by_cases o : Int.tmod x 2 = 1
    · simp only [crc1, o, if_true] at hh
      simp only [impl_SumMore.l1, c, o, if_true, e]
      exact hh
    · simp only [crc1, o, if_false] at hh
      simp only [impl_SumMore.l1, c, o, if_true, if_false, e]
      exact hh
theorem impl_SumMore_l0 (s : ByteArray) (hs : s.size ≤ 140737488351232) : ∀ (d : Nat) (i : Int) (x : Int), 0 ≤ i → i + d = s.size →
    Ev (fun k => impl_SumMore.l0 k x s i) (crcL x ((bytesOf s).drop i.toNat)) := by
  intro d
  induction d with
  | zero =>
    intro i x h0 h
    apply ev_succ
    have c : ¬ i < (s.size : Int) := by omega
    simp only [impl_SumMore.l0, c, if_false]
    apply ev_some
    rw [List.drop_of_length_le (by rw [bytes_len]; omega)]; rfl
  | succ d ih =>
    intro i x h0 h
    apply ev_succ
    have c : i < (s.size : Int) := by omega
    simp only [impl_SumMore.l0, c, h0, if_true]
    have hh := ih (i + 1) (crcB x (bt s i)) (by omega) (by omega)
    rw [drop_bt s i h0 c]
    exact impl_SumMore_l1 s i h0 c hs _ 8 0 _ (by omega) (by omega) hh
theorem impl_SumMore_ev (x : Int) (s : ByteArray) (hs : s.size ≤ 140737488351232) : Ev (fun k => impl_SumMore.f k x s) (crcL x (bytesOf s)) := by
  simp only [impl_SumMore.f]
  exact impl_SumMore_l0 s hs s.size 0 x (by omega) (by omega)

theorem impl_SumOf_ev (s : ByteArray) (hs : s.size ≤ 140737488351232) : Ev (fun k => impl_SumOf.f k s) (sumN s) := by
  simp only [impl_SumOf.f]
  exact Ev.bind (impl_SumMore_ev _ s hs) (Ev.now _)

theorem impl_highFirst_ev (x : Int) (h0 : 0 ≤ x) (h1 : x < 4294967296) : Ev (fun k => impl_highFirst.f k x 4) (strOfNums (four x)) := by
  have a1 : Go.bits .and .i64 x 255 = x % 256 := bits_and255 x h0 (by omega)
  have a2 : Go.bits .and .i64 (x / 256) 255 = x / 256 % 256 := bits_and255 _ (by omega) (by omega)
  have a3 : Go.bits .and .i64 (x / 256 / 256) 255 = x / 256 / 256 % 256 := bits_and255 _ (by omega) (by omega)
  have a4 : Go.bits .and .i64 (x / 256 / 256 / 256) 255 = x / 256 / 256 / 256 % 256 := bits_and255 _ (by omega) (by omega)
  have w1 : wrap64 (4 - 1) = 3 := wlit (by decide) (by decide) (by decide)
  have w2 : wrap64 (3 - 1) = 2 := wlit (by decide) (by decide) (by decide)
  have w3 : wrap64 (2 - 1) = 1 := wlit (by decide) (by decide) (by decide)
  have w4 : wrap64 (1 - 1) = 0 := wlit (by decide) (by decide) (by decide)
  have w5 : wrap64 (0 - 1) = -1 := wlit (by decide) (by decide) (by decide)
  simp only [impl_highFirst.f, show (0 : Int) ≤ 4 by decide, show (4 : Int).toNat ≤ 281474976710656 by decide, if_true, w1]
  apply ev_succ
  simp only [impl_highFirst.l0, show (3 : Int) ≥ 0 by decide, show (0 : Int) ≤ 3 by decide, show (3 : Int) < ((List.replicate (4 : Int).toNat (0 : Int)).length : Int) by decide, if_true, w2, a1]
  apply ev_succ
  simp only [impl_highFirst.l0, show (2 : Int) ≥ 0 by decide, show (0 : Int) ≤ 2 by decide, List.length_set, show (2 : Int) < ((List.replicate (4 : Int).toNat (0 : Int)).length : Int) by decide, if_true, w3, a2]
  apply ev_succ
  simp only [impl_highFirst.l0, show (1 : Int) ≥ 0 by decide, show (0 : Int) ≤ 1 by decide, List.length_set, show (1 : Int) < ((List.replicate (4 : Int).toNat (0 : Int)).length : Int) by decide, if_true, w4, a3]
  apply ev_succ
  simp only [impl_highFirst.l0, show (0 : Int) ≥ 0 by decide, show (0 : Int) ≤ 0 by decide, List.length_set, show (0 : Int) < ((List.replicate (4 : Int).toNat (0 : Int)).length : Int) by decide, if_true, w5, a4]
  apply ev_succ
  simp only [impl_highFirst.l0, show ¬ (-1 : Int) ≥ 0 by decide, if_false]
  apply ev_some
  show strOfNums [x / 256 / 256 / 256 % 256 % 256, x / 256 / 256 % 256 % 256, x / 256 % 256 % 256, x % 256 % 256] = strOfNums (four x)
  unfold four
  congr 1
  simp only [List.cons.injEq, and_true]
  omega
theorem impl_Sealed_ev (s : ByteArray) (hs : s.size ≤ 140737488351232) : Ev (fun k => impl_Sealed.f k s) (pSealed s) := by
  simp only [impl_Sealed.f]
  by_cases h : (s.size : Int) > 20000
  · simp only [h, if_true]
    rw [pSealed_no (by omega)]
    exact Ev.now _
  · simp only [h, if_false]
    refine Ev.bind (impl_SumOf_ev s hs) ?_
    have hr := sumN_range s
    have e : wrap64 (sumN s) = sumN s := w64 (by omega) (by omega)
    simp only [e]
    refine Ev.bind (impl_highFirst_ev _ hr.1 hr.2) ?_
    have c : s.size + (strOfNums (four (sumN s))).size ≤ 9223372036854775807 := by rw [str_len]; simp [four]; omega
    simp only [c, if_true]
    rw [pSealed_yes (by omega)]
    exact Ev.now _

theorem impl_Unsealed_ev (t : ByteArray) (ht : t.size ≤ 140737488351232) : Ev (fun k => impl_Unsealed.f k t) (pUnsealed t) := by
  simp only [impl_Unsealed.f]
  by_cases h : t.size < 4
  · have c : wrap64 ((t.size : Int) - 4) < 0 := by rw [w64 (by omega) (by omega)]; omega
    simp only [c, if_true]
    rw [pUnsealed_no (by omega)]
    exact Ev.now _
  · have e : wrap64 ((t.size : Int) - 4) = ((t.size - 4 : Nat) : Int) := by rw [w64 (by omega) (by omega)]; omega
    have c1 : ¬ ((t.size - 4 : Nat) : Int) < 0 := by omega
    have c2 : 0 ≤ ((t.size - 4 : Nat) : Int) := by omega
    have c3 : ((t.size - 4 : Nat) : Int) ≤ (t.size : Int) := by omega
    simp only [e, c1, c2, c3, if_true, if_false, Int.toNat_natCast]
    have hz : (t.extract 0 (t.size - 4)).size = t.size - 4 := by rw [size_ext]; omega
    refine Ev.bind (impl_Sealed_ev _ (by omega)) ?_
    by_cases h2 : t.size ≤ 20004
    · rw [pSealed_yes (by omega)]
      simp only [if_true, toList_iff]
      by_cases h3 : sealB (t.extract 0 (t.size - 4)) = t
      · simp only [h3, if_true]
        rw [pUnsealed_yes ⟨by omega, h2, h3.symm⟩]
        exact Ev.now _
      · simp only [h3, if_false]
        rw [pUnsealed_no (fun h => h3 h.2.2.symm)]
        exact Ev.now _
    · rw [pSealed_no (by omega)]
      simp only [Bool.false_eq_true, if_false]
      rw [pUnsealed_no (by omega)]
      exact Ev.now _

theorem spec_DrawSumOf_ev (l : List Int) (hl : l.length ≤ 140737488355328) : ∃ t, Ev (fun k => spec_DrawSumOf.f k l) t ∧ t.size ≤ 40 := by
  obtain ⟨g, hg⟩ := spec_l01New_ev l hl
  obtain ⟨x, j2, g3, e2, _, hx, hj2⟩ := spec_l01Below_ev l 0 g 40 (by omega) hl
  have hx := hx (by decide)
  obtain ⟨t, j3, g4, ht, hts, _⟩ := spec_l01Text_ev l j2 g3 x hj2 hl hx.1
  refine ⟨t, ?_, by omega⟩
  simp only [spec_DrawSumOf.f]
  refine Ev.bind hg ?_
  simp only [e2, Option.bind_some]
  exact Ev.bind ht (Ev.now _)
theorem xor8 (a b : Nat) (ha : a < 256) (hb : b < 256) : Go.bits .xor .u8 (a : Int) (b : Int) = ((a ^^^ b : Nat) : Int) := by
  unfold Go.bits
  have ha' : a % 2 ^ IntKind.u8.bits = a := Nat.mod_eq_of_lt (by simpa [IntKind.bits] using ha)
  have hb' : b % 2 ^ IntKind.u8.bits = b := Nat.mod_eq_of_lt (by simpa [IntKind.bits] using hb)
  have hx : a ^^^ b < 2 ^ 8 := Nat.xor_lt_two_pow (by simpa using ha) (by simpa using hb)
  simp only [BitVec.ofInt_natCast, BitVec.toNat_xor, BitVec.toNat_ofNat, ha', hb', IntKind.wrap_u8]
  omega
theorem xor8_other {x d : Int} (hx : 0 ≤ x ∧ x < 256) (hd : 1 ≤ d ∧ d < 256) : (0 ≤ Go.bits .xor .u8 x d ∧ Go.bits .xor .u8 x d < 256) ∧ Go.bits .xor .u8 x d ≠ x := by
  obtain ⟨a, rfl⟩ := Int.eq_ofNat_of_zero_le hx.1
  obtain ⟨b, rfl⟩ := Int.eq_ofNat_of_zero_le (by omega : 0 ≤ d)
  rw [xor8 a b (by omega) (by omega)]
  have hlt : a ^^^ b < 2 ^ 8 := Nat.xor_lt_two_pow (by omega) (by omega)
  refine ⟨⟨by omega, by omega⟩, fun h => ?_⟩
  have h1 : a ^^^ b = a ^^^ 0 := by rw [Nat.xor_zero]; omega
  have := xor_left h1
  omega
theorem set_split {l : List Int} {i : Nat} (h : i < l.length) (c : Int) : l.set i c = l.take i ++ c :: l.drop (i + 1) := List.set_eq_take_append_cons_drop ▸ by rw [if_pos h]
/-- A sealed text with one byte that is another one is not sealed. -/
theorem turned_no (s : ByteArray) (hs : s.size ≤ 20000) (i : Nat) (c : Int) (hi : i < s.size + 4) (hc : 0 ≤ c ∧ c < 256) (hne : c ≠ (bytesOf (sealB s)).getD i 0) :
    pUnsealed (strOfNums ((bytesOf (sealB s)).set i c)) = (⟨#[]⟩, false) := by
  have hX : bytesOf (sealB s) = bytesOf s ++ four (sumN s) := by unfold sealB; rw [bytes_app, bytes_str (four_isB _)]
  rw [hX] at hne ⊢
  have hfl : (four (sumN s)).length = 4 := rfl
  have hbl := bytes_len s
  have hXl : (bytesOf s ++ four (sumN s)).length = s.size + 4 := by rw [List.length_append, hbl, hfl]
  have hB : IsB ((bytesOf s ++ four (sumN s)).set i c) := by
    intro x hx
    rcases List.mem_or_eq_of_mem_set hx with h | h
    · exact (IsB.app (isB_bytes s) (four_isB _)) x h
    · rw [h]; exact hc
  have hsz : (strOfNums ((bytesOf s ++ four (sumN s)).set i c)).size = s.size + 4 := by rw [str_len, List.length_set, hXl]
  refine pUnsealed_no (fun h => ?_)
  have h3 := congrArg bytesOf h.2.2
  rw [hsz, Nat.add_sub_cancel] at h3
  unfold sealB at h3
  rw [bytes_app, bytes_str (four_isB _), bytes_str hB, bytes_ext, bytes_str hB, List.drop_zero, Nat.sub_zero] at h3
  obtain ⟨u, hu⟩ : ∃ u : ByteArray, u = (strOfNums ((bytesOf s ++ four (sumN s)).set i c)).extract 0 s.size := ⟨_, rfl⟩
  have hub : bytesOf u = ((bytesOf s ++ four (sumN s)).set i c).take s.size := by rw [hu, bytes_ext, bytes_str hB, List.drop_zero, Nat.sub_zero]
  rw [← hu, ← hub] at h3
  by_cases hin : i < s.size
  · have e1 : (bytesOf s ++ four (sumN s)).set i c = (bytesOf s).set i c ++ four (sumN s) := List.set_append_left _ _ (by omega)
    have e2 : bytesOf u = (bytesOf s).set i c := by rw [hub, e1, List.take_append_of_le_length (by rw [List.length_set]; omega), List.take_of_length_le (by rw [List.length_set]; omega)]
    rw [e1, e2] at h3
    have h4 := four_inj (sumN_range s) (sumN_range u) (List.append_cancel_left h3)
    unfold sumN at h4
    have hsp : bytesOf s = (bytesOf s).take i ++ (bytesOf s).getD i 0 :: (bytesOf s).drop (i + 1) := by
      have hl : i < (bytesOf s).length := by omega
      rw [List.getD_eq_getElem?_getD, List.getElem?_eq_getElem hl, Option.getD_some, List.getElem_cons_drop, List.take_append_drop]
    have hss : (bytesOf s).set i c = (bytesOf s).take i ++ c :: (bytesOf s).drop (i + 1) := by rw [List.set_eq_take_append_cons_drop, if_pos (by omega)]
    rw [e2, hss] at h4
    rw [hsp] at h4
    have hg : (bytesOf s).getD i 0 ∈ bytesOf s := by
      have hl : i < (bytesOf s).length := by omega
      rw [List.getD_eq_getElem?_getD, List.getElem?_eq_getElem hl, Option.getD_some]; exact List.getElem_mem hl
    rw [← hsp] at h4
    have h5 : crcL 4294967295 ((bytesOf s).take i ++ (bytesOf s).getD i 0 :: (bytesOf s).drop (i + 1)) = crcL 4294967295 ((bytesOf s).take i ++ c :: (bytesOf s).drop (i + 1)) := by rw [← hsp]; exact h4
    have h6 := crcL_one _ _ (by omega) ((isB_bytes s).drop (i + 1)) (isB_bytes s _ hg) hc h5
    apply hne
    rw [← h6, List.getD_eq_getElem?_getD, List.getD_eq_getElem?_getD, List.getElem?_append_left (by omega)]
  · have e1 : (bytesOf s ++ four (sumN s)).set i c = bytesOf s ++ (four (sumN s)).set (i - s.size) c := by rw [List.set_append_right _ _ (by omega), hbl]
    have e2 : bytesOf u = bytesOf s := by rw [hub, e1, List.take_append_of_le_length (by omega), List.take_of_length_le (by omega)]
    have e3 : u = s := bytes_inj e2
    rw [e1, e3] at h3
    have h4 := List.append_cancel_left h3
    apply hne
    have hl : i - s.size < (four (sumN s)).length := by omega
    have h5 : ((four (sumN s)).set (i - s.size) c).getD (i - s.size) 0 = c := by simp [List.getD_eq_getElem?_getD, hl]
    rw [h4] at h5
    rw [← h5, List.getD_eq_getElem?_getD, List.getD_eq_getElem?_getD, List.getElem?_append_right (by omega), hbl]
theorem FnTurned : laws_FnTurned.Pure := by
  intro l0 h1 h2 h3
  by_cases cb : (l0.length : Int) > 1048576
  · left; simp [laws_big.f, cb]
  · refine Or.inr ⟨by simp [laws_big.f]; omega, ?_⟩
    obtain ⟨s, hS, hs⟩ := spec_DrawSumOf_ev l0 (by omega)
    obtain ⟨p, hP, hpl, hpx⟩ := spec_DrawPlaces_ev l0 (by omega)
    have hT := impl_Sealed_ev s (by omega)
    rw [pSealed_yes (by omega)] at hT
    have hzs := sealB_size s
    have hU := impl_Unsealed_ev (sealB s) (by omega)
    have hex : (sealB s).extract 0 ((sealB s).size - 4) = s := by
      apply bytes_inj
      rw [bytes_ext, List.drop_zero, Nat.sub_zero, hzs, Nat.add_sub_cancel]
      unfold sealB
      rw [bytes_app, List.take_append_of_le_length (by rw [bytes_len]; omega), List.take_of_length_le (by rw [bytes_len]; omega)]
    rw [pUnsealed_yes ⟨by omega, by omega, by rw [hex]⟩, hex] at hU
    have hp0 : rd p 0 ∈ p := by
      match p, hpl with
      | x :: q, _ => exact List.mem_cons_self
    have hp1 : rd p 1 ∈ p := by
      match p, hpl with
      | x :: y :: q, _ => exact List.mem_cons_of_mem _ List.mem_cons_self
    have hi := tmod_in (n := ((sealB s).size : Int)) (hpx _ hp0).1 (by omega)
    obtain ⟨i, ei⟩ : ∃ i : Int, Int.tmod (rd p 0) ((sealB s).size : Int) = i := ⟨_, rfl⟩
    rw [ei] at hi
    have hd := tmod_in (n := 255) (hpx _ hp1).1 (by omega)
    have hbt := bt_range (sealB s) i
    have hdd : 1 ≤ (wrap64 (1 + Int.tmod (rd p 1) 255)) % 256 ∧ (wrap64 (1 + Int.tmod (rd p 1) 255)) % 256 < 256 := by rw [w64 (by omega) (by omega)]; omega
    have hx8 := xor8_other (x := bt (sealB s) i) (by omega) hdd
    have hV := impl_Unsealed_ev (strOfNums (turn (sealB s) i (rd p 1))) (by rw [str_len, turn, List.length_set, bytes_len]; omega)
    rw [turn, turned_no s (by omega) i.toNat _ (by omega) hx8.1 (by rw [← bt_rd]; exact hx8.2)] at hV
    have hA := impl_SumOf_ev s (by omega)
    have hC := impl_SumMore_ev (sumN s) (⟨#[120]⟩ : ByteArray) (by decide)
    have hD := impl_SumOf_ev (s ++ (⟨#[120]⟩ : ByteArray)) (by rw [size_app]; have : (⟨#[120]⟩ : ByteArray).size = 1 := rfl; omega)
    have hDC : sumN (s ++ (⟨#[120]⟩ : ByteArray)) = crcL (sumN s) (bytesOf (⟨#[120]⟩ : ByteArray)) := by unfold sumN; rw [bytes_app, crcL_app]
    rw [hDC] at hD
    obtain ⟨k1, g1⟩ := hS
    obtain ⟨k2, g2⟩ := hP
    obtain ⟨k3, g3⟩ := hT
    obtain ⟨k4, g4⟩ := hU
    obtain ⟨k5, g5⟩ := hV
    obtain ⟨k6, g6⟩ := hA
    obtain ⟨k7, g7⟩ := hC
    obtain ⟨k8, g8⟩ := hD
    refine ⟨k1 + k2 + k3 + k4 + k5 + k6 + k7 + k8, s, sealB s, _, p, _, _, i, rd p 1, g1 _ (by omega), g2 _ (by omega), g3 _ (by omega), g4 _ (by omega), ?_, by omega, by omega, ei, rfl, hi.1, hi.2, g5 _ (by omega), g6 _ (by omega), g7 _ (by omega), g8 _ (by omega), by omega⟩
    rw [w64 (by omega) (by omega), hzs]; omega

end Go.Proofs.Ytaainenplcokaaa.Pure
