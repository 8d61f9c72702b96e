/- Drawn records come back from their frames; of frames cut anywhere just the whole ones do: for every code. -/
import Derived.Test.YtaainenplcokaaaQFnFramesx4
import Derived.Test.YtaainenplcokaaaBaseL
import Derived.Test.YtaainenplcokaaaBaseS
import Derived.Test.YtaainenplcokaaaBaseD
namespace Go.Proofs.Ytaainenplcokaaa.Pure
open Go.RowKit Go.Proofs.Ytaainenplcokaaa.QFnFrames Go.Proofs.YtaainenplcokaaaW.PrintWords Go.Proofs.YtaainenplcokaaaW.PrintLast Go.Proofs.YtaainenplcokaaaW.PrintMore Go.Proofs.Ytaainenplcokaaa.Base
set_option linter.unusedVariables false
set_option linter.unusedSimpArgs false

theorem spec_l01New_l0 (l : List Int) (hl : l.length ≤ 140737488355328) : ∀ (d : Nat) (i h : Int), 0 ≤ i → i + d = l.length → ∃ g : Int, Ev (fun k => spec_l01New.l0 k l h i) (l, 0, g) := by
  intro d
  induction d with
  | zero =>
    intro i h h0 hd
    refine ⟨h, ev_succ ?_⟩
    have c : ¬ i < (l.length : Int) := by omega
    simp only [spec_l01New.l0, c, if_false]
    exact Ev.now _
  | succ d ih =>
    intro i h h0 hd
    have c : i < (l.length : Int) := by omega
    by_cases c2 : i < 4000
    · obtain ⟨g, hg⟩ := ih (i + 1) (Go.bits .and .i64 (wrap64 ((wrap64 ((wrap64 (h * 131)) + (wrap64 (rd l i)))) + 7)) 1073741823) (by omega) (by omega)
      refine ⟨g, ev_succ ?_⟩
      have e : wrap64 (i + 1) = i + 1 := w64 (by omega) (by omega)
      simp only [spec_l01New.l0, c, c2, h0, if_true, e]
      exact hg
    · refine ⟨h, ev_succ ?_⟩
      simp only [spec_l01New.l0, c, c2, if_true, if_false]
      exact Ev.now _
theorem spec_l01New_ev (l : List Int) (hl : l.length ≤ 140737488355328) : ∃ g : Int, Ev (fun k => spec_l01New.f k l) (l, 0, g) := by
  obtain ⟨g, hg⟩ := spec_l01New_l0 l hl l.length 0 (wrap64 (37401 + (l.length : Int))) (by omega) (by omega)
  exact ⟨g, by simp only [spec_l01New.f]; exact hg⟩
theorem spec_l01Byte_ev (s : List Int) (i h : Int) (hi : 0 ≤ i ∧ i ≤ s.length) (hs : s.length ≤ 140737488355328) : ∃ x j g, spec_l01Byte.f s i h = some (x, j, g) ∧ (0 ≤ x ∧ x ≤ 255) ∧ 0 ≤ j ∧ j ≤ (s.length : Int) := by
  by_cases c : i < (s.length : Int)
  · have e : wrap64 (i + 1) = i + 1 := w64 (by omega) (by omega)
    refine ⟨_, i + 1, _, by simp only [spec_l01Byte.f, c, hi.1, if_true, e]; rfl, and255 _, by omega, by omega⟩
  · refine ⟨_, i, _, by simp only [spec_l01Byte.f, c, if_false]; rfl, and255 _, hi⟩
theorem spec_l01Below_ev (s : List Int) (i h n : Int) (hi : 0 ≤ i ∧ i ≤ s.length) (hs : s.length ≤ 140737488355328) : ∃ x j g, spec_l01Below.f s i h n = some (x, j, g) ∧ (n ≤ 0 → x = 0) ∧ (0 < n → 0 ≤ x ∧ x < n) ∧ 0 ≤ j ∧ j ≤ (s.length : Int) := by
  by_cases c1 : n ≤ 0
  · exact ⟨0, i, h, by simp only [spec_l01Below.f, c1, if_true], fun _ => rfl, fun h => by omega, hi⟩
  have c3 : ¬ n = 0 := by omega
  by_cases c2 : n ≤ 256
  · obtain ⟨x, j, g, e, hx, hj⟩ := spec_l01Byte_ev s i h hi hs
    refine ⟨Int.tmod x n, j, g, by simp only [spec_l01Below.f, c1, c2, c3, if_true, if_false, e, Option.bind_some], fun h => absurd h c1, fun hn => tmod_in hx.1 hn, hj⟩
  · obtain ⟨x1, j1, g1, e1, hx1, hj1⟩ := spec_l01Byte_ev s i h hi hs
    obtain ⟨x2, j2, g2, e2, hx2, hj2⟩ := spec_l01Byte_ev s j1 g1 hj1 hs
    obtain ⟨x3, j3, g3, e3, hx3, hj3⟩ := spec_l01Byte_ev s j2 g2 hj2 hs
    obtain ⟨x4, j4, g4, e4, hx4, hj4⟩ := spec_l01Byte_ev s j3 g3 hj3 hs
    have f1 : wrap64 (x1 * 16777216) = x1 * 16777216 := w64 (by omega) (by omega)
    have f2 : wrap64 (x2 * 65536) = x2 * 65536 := w64 (by omega) (by omega)
    have f3 : wrap64 (x3 * 256) = x3 * 256 := w64 (by omega) (by omega)
    have f4 : wrap64 (x1 * 16777216 + x2 * 65536) = x1 * 16777216 + x2 * 65536 := w64 (by omega) (by omega)
    have f5 : wrap64 (x1 * 16777216 + x2 * 65536 + x3 * 256) = x1 * 16777216 + x2 * 65536 + x3 * 256 := w64 (by omega) (by omega)
    have f6 : wrap64 (x1 * 16777216 + x2 * 65536 + x3 * 256 + x4) = x1 * 16777216 + x2 * 65536 + x3 * 256 + x4 := w64 (by omega) (by omega)
    refine ⟨Int.tmod (x1 * 16777216 + x2 * 65536 + x3 * 256 + x4) n, j4, g4, by simp only [spec_l01Below.f, c1, c2, c3, if_false, e1, e2, e3, e4, Option.bind_some, f1, f2, f3, f4, f5, f6], fun h => absurd h c1, fun hn => tmod_in (by omega) hn, hj4⟩

theorem spec_DrawPlaces_l0 (s : List Int) (hs : s.length ≤ 140737488355328) : ∀ (d : Nat) (i : Int) (acc : List Int) (j g : Int), 0 ≤ i → i + d = 12 → (acc.length : Int) = i → (∀ x ∈ acc, 0 ≤ x ∧ x < 10000) → 0 ≤ j ∧ j ≤ (s.length : Int) →
    ∃ p : List Int, Ev (fun k => spec_DrawPlaces.l0 k acc i s j g) p ∧ p.length = 12 ∧ ∀ x ∈ p, 0 ≤ x ∧ x < 10000 := by
  intro d
  induction d with
  | zero =>
    intro i acc j g h0 hd hl ha hj
    refine ⟨acc, ev_succ ?_, by omega, ha⟩
    have c : ¬ i < 12 := by omega
    simp only [spec_DrawPlaces.l0, c, if_false]
    exact Ev.now _
  | succ d ih =>
    intro i acc j g h0 hd hl ha hj
    have c : i < 12 := by omega
    obtain ⟨x, j2, g2, e, _, hx, hj2⟩ := spec_l01Below_ev s j g 10000 hj hs
    have hx' := hx (by decide)
    obtain ⟨p, hp, hp2⟩ := ih (i + 1) (acc ++ [x]) j2 g2 (by omega) (by omega) (by rw [List.length_append]; simp; omega) (fun y hy => by
      rcases List.mem_append.1 hy with h | h
      · exact ha y h
      · rw [List.mem_singleton] at h; subst h; exact hx') hj2
    refine ⟨p, ev_succ ?_, hp2⟩
    have e1 : wrap64 (i + 1) = i + 1 := w64 (by omega) (by omega)
    have c2 : acc.length < 17592186044416 := by omega
    simp only [spec_DrawPlaces.l0, c, if_true, e, Option.bind_some, c2, e1]
    exact hp
theorem spec_DrawPlaces_ev (l : List Int) (hl : l.length ≤ 140737488355328) : ∃ p : List Int, Ev (fun k => spec_DrawPlaces.f k l) p ∧ p.length = 12 ∧ ∀ x ∈ p, 0 ≤ x ∧ x < 10000 := by
  obtain ⟨g, hg⟩ := spec_l01New_ev l hl
  obtain ⟨x, j, g2, e, _, hj⟩ := spec_l01Byte_ev l 0 g (by omega) hl
  obtain ⟨p, hp, hp2⟩ := spec_DrawPlaces_l0 l hl 12 0 [] j g2 (by omega) (by omega) rfl (fun y hy => by simp at hy) hj
  refine ⟨p, ?_, hp2⟩
  simp only [spec_DrawPlaces.f]
  refine Ev.bind hg ?_
  simp only [e, Option.bind_some]
  exact hp

theorem spec_l01Text_l0 (s : List Int) (hs : s.length ≤ 140737488355328) (n : Int) (hn : n ≤ 5000) : ∀ (d : Nat) (i : Int) (acc : List Int) (j g : Int), 0 ≤ i → i + d = n → (acc.length : Int) = i → 0 ≤ j ∧ j ≤ (s.length : Int) →
    ∃ t j2 g2, Ev (fun k => spec_l01Text.l0 k n acc i s j g) (t, j2, g2) ∧ (t.size : Int) = n ∧ 0 ≤ j2 ∧ j2 ≤ (s.length : Int) := by
  intro d
  induction d with
  | zero =>
    intro i acc j g h0 hd hl hj
    refine ⟨strOfNums acc, j, g, ev_succ ?_, by rw [str_len]; omega, hj⟩
    have c : ¬ i < n := by omega
    simp only [spec_l01Text.l0, c, if_false]
    exact Ev.now _
  | succ d ih =>
    intro i acc j g h0 hd hl hj
    have c : i < n := by omega
    obtain ⟨x, j2, g2, e, _, hj2⟩ := spec_l01Byte_ev s j g hj hs
    obtain ⟨t, j3, g3, hp, hp2⟩ := ih (i + 1) (acc ++ [x % 256]) j2 g2 (by omega) (by omega) (by rw [List.length_append]; simp; omega) hj2
    refine ⟨t, j3, g3, ev_succ ?_, hp2⟩
    have e1 : wrap64 (i + 1) = i + 1 := w64 (by omega) (by omega)
    have c2 : acc.length < 140737488355328 := by omega
    simp only [spec_l01Text.l0, c, if_true, e, Option.bind_some, c2, e1]
    exact hp
theorem spec_l01Text_ev (s : List Int) (i h n : Int) (hi : 0 ≤ i ∧ i ≤ s.length) (hs : s.length ≤ 140737488355328) (hn : 0 ≤ n) : ∃ t j g, Ev (fun k => spec_l01Text.f k s i h n) (t, j, g) ∧ (t.size : Int) ≤ n ∧ (t.size : Int) ≤ 5000 ∧ 0 ≤ j ∧ j ≤ (s.length : Int) := by
  by_cases c : n > 5000
  · obtain ⟨t, j, g, hp, h1, h2⟩ := spec_l01Text_l0 s hs 5000 (by omega) 5000 0 [] i h (by omega) (by omega) rfl hi
    refine ⟨t, j, g, ?_, by omega, by omega, h2⟩
    simp only [spec_l01Text.f, c, if_true]
    apply ev_succ
    simp only [spec_l01Text.j0]
    exact hp
  · obtain ⟨t, j, g, hp, h1, h2⟩ := spec_l01Text_l0 s hs n (by omega) n.toNat 0 [] i h (by omega) (by omega) rfl hi
    refine ⟨t, j, g, ?_, by omega, by omega, h2⟩
    simp only [spec_l01Text.f, c, if_false]
    apply ev_succ
    simp only [spec_l01Text.j0]
    exact hp
theorem spec_l01Once_ev (s : List Int) (i h n : Int) (hi : 0 ≤ i ∧ i ≤ s.length) (hs : s.length ≤ 140737488355328) : ∃ b j g, spec_l01Once.f s i h n = some (b, j, g) ∧ 0 ≤ j ∧ j ≤ (s.length : Int) := by
  obtain ⟨x, j, g, e, _, _, hj⟩ := spec_l01Below_ev s i h n hi hs
  exact ⟨x == 0, j, g, by simp only [spec_l01Once.f, e, Option.bind_some], hj⟩

theorem spec_l01Long_l0 (n x : Int) (hn : n ≤ 1048576) : ∀ (d : Nat) (i : Int) (acc : List Int), 0 ≤ i → i + d = n → (acc.length : Int) = n →
    ∃ t, Ev (fun k => spec_l01Long.l0 k n x acc i) t ∧ (t.size : Int) = n := by
  intro d
  induction d with
  | zero =>
    intro i acc h0 hd hl
    refine ⟨strOfNums acc, ev_succ ?_, by rw [str_len]; exact hl⟩
    have c : ¬ i < n := by omega
    simp only [spec_l01Long.l0, c, if_false]
    exact Ev.now _
  | succ d ih =>
    intro i acc h0 hd hl
    have c : i < n := by omega
    have c2 : i < (acc.length : Int) := by omega
    obtain ⟨t, hp, hp2⟩ := ih (i + 1) (acc.set i.toNat x) (by omega) (by omega) (by rw [List.length_set]; exact hl)
    refine ⟨t, ev_succ ?_, hp2⟩
    have e1 : wrap64 (i + 1) = i + 1 := w64 (by omega) (by omega)
    simp only [spec_l01Long.l0, c, c2, h0, if_true, e1]
    exact hp
theorem spec_l01Long_ev (n x : Int) (h0 : 0 ≤ n) (hn : n ≤ 1048576) : ∃ t, Ev (fun k => spec_l01Long.f k n x) t ∧ (t.size : Int) = n := by
  obtain ⟨t, hp, hp2⟩ := spec_l01Long_l0 n x hn n.toNat 0 (List.replicate n.toNat 0) (by omega) (by omega) (by rw [List.length_replicate]; omega)
  refine ⟨t, ?_, hp2⟩
  have c : n.toNat ≤ 281474976710656 := by omega
  simp only [spec_l01Long.f, h0, c, if_true]
  exact hp
theorem spec_DrawHex_ev (l : List Int) (hl : l.length ≤ 140737488355328) : ∃ t, Ev (fun k => spec_DrawHex.f k l) t ∧ t.size ≤ 20001 := by
  obtain ⟨g, hg⟩ := spec_l01New_ev l hl
  obtain ⟨b, j, g2, e, hj⟩ := spec_l01Once_ev l 0 g 60 (by omega) hl
  cases b with
  | true =>
    obtain ⟨x, j2, g3, e2, _, hx, _⟩ := spec_l01Below_ev l j g2 2 hj hl
    have hx := hx (by decide)
    obtain ⟨t, ht, hts⟩ := spec_l01Long_ev (20000 + x) 200 (by omega) (by omega)
    refine ⟨t, ?_, by omega⟩
    have e3 : wrap64 (20000 + x) = 20000 + x := w64 (by omega) (by omega)
    simp only [spec_DrawHex.f]
    refine Ev.bind hg ?_
    simp only [e, Option.bind_some, if_true, e2, e3]
    exact Ev.bind ht (Ev.now _)
  | false =>
    obtain ⟨x, j2, g3, e2, _, hx, hj2⟩ := spec_l01Below_ev l j g2 30 hj hl
    have hx := hx (by decide)
    obtain ⟨t, j3, g4, ht, hts, _⟩ := spec_l01Text_ev l j2 g3 x hj2 hl hx.1
    refine ⟨t, ?_, by omega⟩
    simp only [spec_DrawHex.f]
    refine Ev.bind hg ?_
    simp only [e, Option.bind_some, Bool.false_eq_true, if_false, e2]
    exact Ev.bind ht (Ev.now _)

theorem impl_within_ev (a b c : Int) : Ev (fun _ => impl_within.f a b c) (decide (b ≤ a ∧ a ≤ c)) := by
  apply ev_const
  unfold impl_within.f
  by_cases h : a ≥ b
  · rw [if_pos h]; simp [show b ≤ a from h]
  · rw [if_neg h]; simp [show ¬ b ≤ a from h]

theorem impl_VarText_l0 (n : Nat) : ∀ xs : List Int, xs.length + n < 140737488355328 → Ev (fun k => impl_VarText.l0 k (n : Int) xs) (strOfNums (xs ++ varN n), true) := by
  induction n using Nat.strongRecOn with
  | ind n ih =>
    intro xs h
    apply ev_succ
    have c2 : xs.length < 140737488355328 := by omega
    by_cases hn : n ≤ 127
    · have c1 : ¬ (n : Int) > 127 := by omega
      simp only [impl_VarText.l0, c1, c2, if_true, if_false]
      apply ev_some
      rw [varN_small hn, show (n : Int) % 256 = n by omega]
    · have c1 : (n : Int) > 127 := by omega
      simp only [impl_VarText.l0, c1, c2, if_true, var_div n (by omega), var_mod n]
      have := ih (n / 128) (by omega) (xs ++ [((n % 128 + 128 : Nat) : Int)]) (by simp; omega)
      rw [varN_big hn]
      simpa using this
theorem impl_VarText_ev (n : Int) : Ev (fun k => impl_VarText.f k n) (pVarText n) := by
  simp only [impl_VarText.f]
  refine Ev.bind (impl_within_ev _ _ _) ?_
  by_cases h : 0 ≤ n ∧ n ≤ 1000000000
  · simp only [h, and_self, decide_true, if_true]
    obtain ⟨m, rfl⟩ := Int.eq_ofNat_of_zero_le h.1
    have := impl_VarText_l0 m [] (by simp; omega)
    rw [pVarText_yes h]
    simpa [varB] using this
  · simp only [h, decide_false, Bool.false_eq_true, if_false]
    rw [pVarText_no h]
    exact Ev.now _

theorem impl_SumMore_l1 (s : ByteArray) (i : Int) (h0 : 0 ≤ i) (h1 : i < s.size) (hs : s.size ≤ 140737488351232) (r : Int) : ∀ (m : Nat) (j x : Int), 0 ≤ j → j + m = 8 →
    Ev (fun k => impl_SumMore.l0 k (crcK m x) s (i + 1)) r → Ev (fun k => impl_SumMore.l1 k x s i j) r := by
  intro m
  induction m with
  | zero =>
    intro j x hj hm h
    apply ev_succ
    have c : ¬ j < 8 := by omega
    have e : wrap64 (i + 1) = i + 1 := w64 (by omega) (by omega)
    simp only [impl_SumMore.l1, c, if_false, e]
    exact h
  | succ m ih =>
    intro j x hj hm h
    apply ev_succ
    have c : j < 8 := by omega
    have e : wrap64 (j + 1) = j + 1 := w64 (by omega) (by omega)
    have hh := ih (j + 1) (crc1 x) (by omega) (by omega) h
    by_cases o : Int.tmod x 2 = 1
    · simp only [crc1, o, if_true] at hh
      simp only [impl_SumMore.l1, c, o, if_true, e]
      exact hh
    · simp only [crc1, o, if_false] at hh
      simp only [impl_SumMore.l1, c, o, if_true, if_false, e]
      exact hh
theorem impl_SumMore_l0 (s : ByteArray) (hs : s.size ≤ 140737488351232) : ∀ (d : Nat) (i : Int) (x : Int), 0 ≤ i → i + d = s.size →
    Ev (fun k => impl_SumMore.l0 k x s i) (crcL x ((bytesOf s).drop i.toNat)) := by
  intro d
  induction d with
  | zero =>
    intro i x h0 h
    apply ev_succ
    have c : ¬ i < (s.size : Int) := by omega
    simp only [impl_SumMore.l0, c, if_false]
    apply ev_some
    rw [List.drop_of_length_le (by rw [bytes_len]; omega)]; rfl
  | succ d ih =>
    intro i x h0 h
    apply ev_succ
    have c : i < (s.size : Int) := by omega
    simp only [impl_SumMore.l0, c, h0, if_true]
    have hh := ih (i + 1) (crcB x (bt s i)) (by omega) (by omega)
    rw [drop_bt s i h0 c]
    exact impl_SumMore_l1 s i h0 c hs _ 8 0 _ (by omega) (by omega) hh
theorem impl_SumMore_ev (x : Int) (s : ByteArray) (hs : s.size ≤ 140737488351232) : Ev (fun k => impl_SumMore.f k x s) (crcL x (bytesOf s)) := by
  simp only [impl_SumMore.f]
  exact impl_SumMore_l0 s hs s.size 0 x (by omega) (by omega)

theorem impl_SumOf_ev (s : ByteArray) (hs : s.size ≤ 140737488351232) : Ev (fun k => impl_SumOf.f k s) (sumN s) := by
  simp only [impl_SumOf.f]
  exact Ev.bind (impl_SumMore_ev _ s hs) (Ev.now _)

theorem impl_sumText_ev (s : ByteArray) (hs : s.size ≤ 140737488351232) : Ev (fun k => impl_sumText.f k s) (strOfNums (four (sumN s))) := by
  simp only [impl_sumText.f]
  exact Ev.bind (impl_SumOf_ev s hs) (Ev.now _)

theorem impl_Frame_ev (s : ByteArray) (hs : s.size ≤ 140737488351232) : Ev (fun k => impl_Frame.f k s) (pFrame s) := by
  simp only [impl_Frame.f]
  refine Ev.bind (impl_within_ev _ _ _) ?_
  by_cases h : 1 ≤ s.size ∧ s.size ≤ 9000
  · have h' : 1 ≤ (s.size : Int) ∧ (s.size : Int) ≤ 9000 := by omega
    simp only [h', and_self, decide_true, if_true]
    refine Ev.bind (impl_VarText_ev _) ?_
    rw [pVarText_yes (by omega), pFrame_yes h]
    refine Ev.bind (impl_sumText_ev s hs) ?_
    have hv := (varN_len s.size).2
    have c1 : (varB s.size).size + (strOfNums (four (sumN s))).size ≤ 9223372036854775807 := by rw [varB, str_len, str_len]; simp [four]; omega
    have c2 : (varB s.size ++ strOfNums (four (sumN s))).size + s.size ≤ 9223372036854775807 := by rw [size_app, varB, str_len, str_len]; simp [four]; omega
    simp only [Int.toNat_natCast, c1, c2, if_true]
    exact Ev.now _
  · have h' : ¬ (1 ≤ (s.size : Int) ∧ (s.size : Int) ≤ 9000) := by omega
    simp only [h', decide_false, Bool.false_eq_true, if_false]
    rw [pFrame_no h]
    exact Ev.now _

theorem impl_ReadVar_i5 (s : ByteArray) (at_ n : Int) (l : List Int) (sc : Int) : Ev (fun k => impl_ReadVar.l0 k s at_ n 5) (rvOut (at_ + 5) (rvF 0 sc n false l)) := by
  apply ev_succ
  simp only [impl_ReadVar.l0, show ¬ (5 : Int) < 5 by decide, if_false]
  apply ev_succ
  simp only [impl_ReadVar.j1, Bool.false_eq_true, if_false]
  exact Ev.now _
theorem impl_ReadVar_i4 (s : ByteArray) (hs : s.size ≤ 140737488351232) (at_ : Int) (h0 : 0 ≤ at_) (h1 : at_ ≤ s.size) (n : Int) (hn0 : 0 ≤ n) (hn : n < 268435456) :
    Ev (fun k => impl_ReadVar.l0 k s at_ n 4) (rvOut (at_ + 4) (rvF 1 268435456 n false ((bytesOf s).drop (at_ + 4).toNat))) := by
  apply ev_succ
  have e1 : wrap64 (at_ + 4) = at_ + 4 := w64 (by omega) (by omega)
  simp only [impl_ReadVar.l0, show (4 : Int) < 5 by decide, if_true, e1]
  apply ev_succ
  by_cases c : at_ + 4 < (s.size : Int)
  · rw [drop_bt s (at_ + 4) (by omega) c]
    have br := bt_range s (at_ + 4)
    have e0 : 0 ≤ at_ + 4 := by omega
    have e7 : (at_ + 4 + 1).toNat = (at_ + 5).toNat := by omega
    rw [e7]
    simp only [impl_ReadVar.j1, c, decide_true, if_true, e0, e1]
    have hnext := fun (m : Int) (_ _ : True) => impl_ReadVar_i5 s at_ m ((bytesOf s).drop (at_ + 5).toNat) 34359738368
    generalize bt s (at_ + 4) = b at br hnext ⊢
    have e2 : wrap64 b = b := w64 (by omega) (by omega)
    have e3 : Int.tmod b 128 = b % 128 := Int.tmod_eq_emod_of_nonneg (by omega)
    have e4 : wrap64 (7 * 4) = 28 := wlit (by decide) (by decide) (by decide)
    have e5 : shl .i64 (b % 128) 28 = b % 128 * 268435456 := shl7 (b % 128) 28 (by omega) (by omega) (by decide)
    have e6 : wrap64 (n + b % 128 * 268435456) = n + b % 128 * 268435456 := w64 (by omega) (by omega)
    have e8 : wrap64 (4 + 1) = 5 := wlit (by decide) (by decide) (by decide)
    have e9 : wrap64 (at_ + 4 + 1) = at_ + 4 + 1 := w64 (by omega) (by omega)
    simp only [if_true, e1, e2, e3, e4, e5, e6, e8, e9, show (0 : Int) ≤ 28 by decide, show (4 : Int) > 0 by decide]
    by_cases hb : b > 127
    · have hh := hnext (n + b % 128 * 268435456) trivial trivial
      rw [rvF_more hb, rvOut_map]
      simp only [hb, if_true]
      simpa only [show at_ + 4 + 1 = at_ + 5 by omega, show (268435456 : Int) * 128 = 34359738368 by decide] using hh
    · by_cases hz : b = 0
      · rw [rvF_stop hb (Or.inl ⟨rfl, hz⟩)]
        simp only [hb, hz, if_true, if_false]
        exact Ev.now _
      · by_cases hg : n + b % 128 * 268435456 > 1000000000
        · rw [rvF_stop hb (Or.inr hg)]
          simp only [hb, hz, hg, if_true, if_false]
          exact Ev.now _
        · rw [rvF_take hb (by simp [hz]) hg]
          simp only [hb, hz, hg, if_false]
          exact Ev.now _
  · simp only [impl_ReadVar.j1, c, decide_false, Bool.false_eq_true, if_false]
    rw [List.drop_of_length_le (by rw [bytes_len]; omega)]
    exact Ev.now _
theorem impl_ReadVar_i3 (s : ByteArray) (hs : s.size ≤ 140737488351232) (at_ : Int) (h0 : 0 ≤ at_) (h1 : at_ ≤ s.size) (n : Int) (hn0 : 0 ≤ n) (hn : n < 2097152) :
    Ev (fun k => impl_ReadVar.l0 k s at_ n 3) (rvOut (at_ + 3) (rvF 2 2097152 n false ((bytesOf s).drop (at_ + 3).toNat))) := by
  apply ev_succ
  have e1 : wrap64 (at_ + 3) = at_ + 3 := w64 (by omega) (by omega)
  simp only [impl_ReadVar.l0, show (3 : Int) < 5 by decide, if_true, e1]
  apply ev_succ
  by_cases c : at_ + 3 < (s.size : Int)
  · rw [drop_bt s (at_ + 3) (by omega) c]
    have br := bt_range s (at_ + 3)
    have e0 : 0 ≤ at_ + 3 := by omega
    have e7 : (at_ + 3 + 1).toNat = (at_ + 4).toNat := by omega
    rw [e7]
    simp only [impl_ReadVar.j1, c, decide_true, if_true, e0, e1]
    have hnext := fun (m : Int) (hm0 : 0 ≤ m) (hm : m < 268435456) => impl_ReadVar_i4 s hs at_ h0 h1 m hm0 hm
    generalize bt s (at_ + 3) = b at br hnext ⊢
    have e2 : wrap64 b = b := w64 (by omega) (by omega)
    have e3 : Int.tmod b 128 = b % 128 := Int.tmod_eq_emod_of_nonneg (by omega)
    have e4 : wrap64 (7 * 3) = 21 := wlit (by decide) (by decide) (by decide)
    have e5 : shl .i64 (b % 128) 21 = b % 128 * 2097152 := shl7 (b % 128) 21 (by omega) (by omega) (by decide)
    have e6 : wrap64 (n + b % 128 * 2097152) = n + b % 128 * 2097152 := w64 (by omega) (by omega)
    have e8 : wrap64 (3 + 1) = 4 := wlit (by decide) (by decide) (by decide)
    have e9 : wrap64 (at_ + 3 + 1) = at_ + 3 + 1 := w64 (by omega) (by omega)
    simp only [if_true, e1, e2, e3, e4, e5, e6, e8, e9, show (0 : Int) ≤ 21 by decide, show (3 : Int) > 0 by decide]
    by_cases hb : b > 127
    · have hh := hnext (n + b % 128 * 2097152) (by omega) (by omega)
      rw [rvF_more hb, rvOut_map]
      simp only [hb, if_true]
      simpa only [show at_ + 3 + 1 = at_ + 4 by omega, show (2097152 : Int) * 128 = 268435456 by decide] using hh
    · by_cases hz : b = 0
      · rw [rvF_stop hb (Or.inl ⟨rfl, hz⟩)]
        simp only [hb, hz, if_true, if_false]
        exact Ev.now _
      · by_cases hg : n + b % 128 * 2097152 > 1000000000
        · rw [rvF_stop hb (Or.inr hg)]
          simp only [hb, hz, hg, if_true, if_false]
          exact Ev.now _
        · rw [rvF_take hb (by simp [hz]) hg]
          simp only [hb, hz, hg, if_false]
          exact Ev.now _
  · simp only [impl_ReadVar.j1, c, decide_false, Bool.false_eq_true, if_false]
    rw [List.drop_of_length_le (by rw [bytes_len]; omega)]
    exact Ev.now _
theorem impl_ReadVar_i2 (s : ByteArray) (hs : s.size ≤ 140737488351232) (at_ : Int) (h0 : 0 ≤ at_) (h1 : at_ ≤ s.size) (n : Int) (hn0 : 0 ≤ n) (hn : n < 16384) :
    Ev (fun k => impl_ReadVar.l0 k s at_ n 2) (rvOut (at_ + 2) (rvF 3 16384 n false ((bytesOf s).drop (at_ + 2).toNat))) := by
  apply ev_succ
  have e1 : wrap64 (at_ + 2) = at_ + 2 := w64 (by omega) (by omega)
  simp only [impl_ReadVar.l0, show (2 : Int) < 5 by decide, if_true, e1]
  apply ev_succ
  by_cases c : at_ + 2 < (s.size : Int)
  · rw [drop_bt s (at_ + 2) (by omega) c]
    have br := bt_range s (at_ + 2)
    have e0 : 0 ≤ at_ + 2 := by omega
    have e7 : (at_ + 2 + 1).toNat = (at_ + 3).toNat := by omega
    rw [e7]
    simp only [impl_ReadVar.j1, c, decide_true, if_true, e0, e1]
    have hnext := fun (m : Int) (hm0 : 0 ≤ m) (hm : m < 2097152) => impl_ReadVar_i3 s hs at_ h0 h1 m hm0 hm
    generalize bt s (at_ + 2) = b at br hnext ⊢
    have e2 : wrap64 b = b := w64 (by omega) (by omega)
    have e3 : Int.tmod b 128 = b % 128 := Int.tmod_eq_emod_of_nonneg (by omega)
    have e4 : wrap64 (7 * 2) = 14 := wlit (by decide) (by decide) (by decide)
    have e5 : shl .i64 (b % 128) 14 = b % 128 * 16384 := shl7 (b % 128) 14 (by omega) (by omega) (by decide)
    have e6 : wrap64 (n + b % 128 * 16384) = n + b % 128 * 16384 := w64 (by omega) (by omega)
    have e8 : wrap64 (2 + 1) = 3 := wlit (by decide) (by decide) (by decide)
    have e9 : wrap64 (at_ + 2 + 1) = at_ + 2 + 1 := w64 (by omega) (by omega)
    simp only [if_true, e1, e2, e3, e4, e5, e6, e8, e9, show (0 : Int) ≤ 14 by decide, show (2 : Int) > 0 by decide]
    by_cases hb : b > 127
    · have hh := hnext (n + b % 128 * 16384) (by omega) (by omega)
      rw [rvF_more hb, rvOut_map]
      simp only [hb, if_true]
      simpa only [show at_ + 2 + 1 = at_ + 3 by omega, show (16384 : Int) * 128 = 2097152 by decide] using hh
    · by_cases hz : b = 0
      · rw [rvF_stop hb (Or.inl ⟨rfl, hz⟩)]
        simp only [hb, hz, if_true, if_false]
        exact Ev.now _
      · by_cases hg : n + b % 128 * 16384 > 1000000000
        · rw [rvF_stop hb (Or.inr hg)]
          simp only [hb, hz, hg, if_true, if_false]
          exact Ev.now _
        · rw [rvF_take hb (by simp [hz]) hg]
          simp only [hb, hz, hg, if_false]
          exact Ev.now _
  · simp only [impl_ReadVar.j1, c, decide_false, Bool.false_eq_true, if_false]
    rw [List.drop_of_length_le (by rw [bytes_len]; omega)]
    exact Ev.now _
theorem impl_ReadVar_i1 (s : ByteArray) (hs : s.size ≤ 140737488351232) (at_ : Int) (h0 : 0 ≤ at_) (h1 : at_ ≤ s.size) (n : Int) (hn0 : 0 ≤ n) (hn : n < 128) :
    Ev (fun k => impl_ReadVar.l0 k s at_ n 1) (rvOut (at_ + 1) (rvF 4 128 n false ((bytesOf s).drop (at_ + 1).toNat))) := by
  apply ev_succ
  have e1 : wrap64 (at_ + 1) = at_ + 1 := w64 (by omega) (by omega)
  simp only [impl_ReadVar.l0, show (1 : Int) < 5 by decide, if_true, e1]
  apply ev_succ
  by_cases c : at_ + 1 < (s.size : Int)
  · rw [drop_bt s (at_ + 1) (by omega) c]
    have br := bt_range s (at_ + 1)
    have e0 : 0 ≤ at_ + 1 := by omega
    have e7 : (at_ + 1 + 1).toNat = (at_ + 2).toNat := by omega
    rw [e7]
    simp only [impl_ReadVar.j1, c, decide_true, if_true, e0, e1]
    have hnext := fun (m : Int) (hm0 : 0 ≤ m) (hm : m < 16384) => impl_ReadVar_i2 s hs at_ h0 h1 m hm0 hm
    generalize bt s (at_ + 1) = b at br hnext ⊢
    have e2 : wrap64 b = b := w64 (by omega) (by omega)
    have e3 : Int.tmod b 128 = b % 128 := Int.tmod_eq_emod_of_nonneg (by omega)
    have e4 : wrap64 (7 * 1) = 7 := wlit (by decide) (by decide) (by decide)
    have e5 : shl .i64 (b % 128) 7 = b % 128 * 128 := shl7 (b % 128) 7 (by omega) (by omega) (by decide)
    have e6 : wrap64 (n + b % 128 * 128) = n + b % 128 * 128 := w64 (by omega) (by omega)
    have e8 : wrap64 (1 + 1) = 2 := wlit (by decide) (by decide) (by decide)
    have e9 : wrap64 (at_ + 1 + 1) = at_ + 1 + 1 := w64 (by omega) (by omega)
    simp only [if_true, e1, e2, e3, e4, e5, e6, e8, e9, show (0 : Int) ≤ 7 by decide, show (1 : Int) > 0 by decide]
    by_cases hb : b > 127
    · have hh := hnext (n + b % 128 * 128) (by omega) (by omega)
      rw [rvF_more hb, rvOut_map]
      simp only [hb, if_true]
      simpa only [show at_ + 1 + 1 = at_ + 2 by omega, show (128 : Int) * 128 = 16384 by decide] using hh
    · by_cases hz : b = 0
      · rw [rvF_stop hb (Or.inl ⟨rfl, hz⟩)]
        simp only [hb, hz, if_true, if_false]
        exact Ev.now _
      · by_cases hg : n + b % 128 * 128 > 1000000000
        · rw [rvF_stop hb (Or.inr hg)]
          simp only [hb, hz, hg, if_true, if_false]
          exact Ev.now _
        · rw [rvF_take hb (by simp [hz]) hg]
          simp only [hb, hz, hg, if_false]
          exact Ev.now _
  · simp only [impl_ReadVar.j1, c, decide_false, Bool.false_eq_true, if_false]
    rw [List.drop_of_length_le (by rw [bytes_len]; omega)]
    exact Ev.now _
theorem impl_ReadVar_i0 (s : ByteArray) (hs : s.size ≤ 140737488351232) (at_ : Int) (h0 : 0 ≤ at_) (h1 : at_ ≤ s.size) (n : Int) (hn0 : 0 ≤ n) (hn : n < 1) :
    Ev (fun k => impl_ReadVar.l0 k s at_ n 0) (rvOut (at_ + 0) (rvF 5 1 n true ((bytesOf s).drop (at_ + 0).toNat))) := by
  apply ev_succ
  have e1 : wrap64 (at_ + 0) = at_ + 0 := w64 (by omega) (by omega)
  simp only [impl_ReadVar.l0, show (0 : Int) < 5 by decide, if_true, e1]
  apply ev_succ
  by_cases c : at_ + 0 < (s.size : Int)
  · rw [drop_bt s (at_ + 0) (by omega) c]
    have br := bt_range s (at_ + 0)
    have e0 : 0 ≤ at_ + 0 := by omega
    have e7 : (at_ + 0 + 1).toNat = (at_ + 1).toNat := by omega
    rw [e7]
    simp only [impl_ReadVar.j1, c, decide_true, if_true, e0, e1]
    have hnext := fun (m : Int) (hm0 : 0 ≤ m) (hm : m < 128) => impl_ReadVar_i1 s hs at_ h0 h1 m hm0 hm
    generalize bt s (at_ + 0) = b at br hnext ⊢
    have e2 : wrap64 b = b := w64 (by omega) (by omega)
    have e3 : Int.tmod b 128 = b % 128 := Int.tmod_eq_emod_of_nonneg (by omega)
    have e4 : wrap64 (7 * 0) = 0 := wlit (by decide) (by decide) (by decide)
    have e5 : shl .i64 (b % 128) 0 = b % 128 * 1 := shl7 (b % 128) 0 (by omega) (by omega) (by decide)
    have e6 : wrap64 (n + b % 128 * 1) = n + b % 128 * 1 := w64 (by omega) (by omega)
    have e8 : wrap64 (0 + 1) = 1 := wlit (by decide) (by decide) (by decide)
    have e9 : wrap64 (at_ + 0 + 1) = at_ + 0 + 1 := w64 (by omega) (by omega)
    simp only [if_true, e1, e2, e3, e4, e5, e6, e8, e9, show (0 : Int) ≤ 0 by decide, show ¬ (0 : Int) > 0 by decide, if_false]
    by_cases hb : b > 127
    · have hh := hnext (n + b % 128 * 1) (by omega) (by omega)
      rw [rvF_more hb, rvOut_map]
      simp only [hb, if_true]
      simpa only [show at_ + 0 + 1 = at_ + 1 by omega, show (1 : Int) * 128 = 128 by decide] using hh
    · by_cases hg : n + b % 128 * 1 > 1000000000
      · rw [rvF_stop hb (Or.inr hg)]
        simp only [hb, hg, if_true, if_false]
        exact Ev.now _
      · rw [rvF_take hb (by simp) hg]
        simp only [hb, hg, if_false]
        exact Ev.now _
  · simp only [impl_ReadVar.j1, c, decide_false, Bool.false_eq_true, if_false]
    rw [List.drop_of_length_le (by rw [bytes_len]; omega)]
    exact Ev.now _
theorem impl_ReadVar_ev (s : ByteArray) (hs : s.size ≤ 140737488351232) (at_ : Int) : Ev (fun k => impl_ReadVar.f k s at_) (pReadVar s at_) := by
  simp only [impl_ReadVar.f]
  refine Ev.bind (impl_within_ev _ _ _) ?_
  by_cases h : 0 ≤ at_ ∧ at_ ≤ (s.size : Int)
  · simp only [h, and_self, decide_true, if_true]
    rw [pReadVar_in h]
    have hh := impl_ReadVar_i0 s hs at_ h.1 h.2 0 (by decide) (by decide)
    simpa only [Int.add_zero] using hh
  · simp only [h, decide_false, Bool.false_eq_true, if_false]
    rw [pReadVar_out h]
    exact Ev.now _

theorem impl_Unframe_l0 (s : ByteArray) (hs : s.size ≤ 20000) : ∀ (d : Nat) (at_ : Int) (acc : List ByteArray), 0 ≤ at_ → at_ ≤ s.size → s.size - at_ < d → acc.length ≤ at_ →
    Ev (fun k => impl_Unframe.l0 k s acc at_) (pUnfr s d acc at_) := by
  intro d
  induction d with
  | zero => intro at_ acc h0 h1 h2; omega
  | succ d ih =>
    intro at_ acc h0 h1 h2 h3
    apply ev_succ
    have cs : (s.size : Int) ≤ 20000 := by omega
    simp only [impl_Unframe.l0, cs, if_true]
    have hstop : ¬ uOk s at_ → ∀ n m, Ev (fun k => impl_Unframe.j1 k s acc at_ n m true) (pUnfr s (d + 1) acc at_) := by
      intro hn n m
      apply ev_succ
      simp only [impl_Unframe.j1, if_true]
      rw [pUnfr_no hn]
      exact Ev.now _
    refine Ev.bind (impl_ReadVar_ev s (by omega) at_) ?_
    by_cases ho : (pReadVar s at_).2.2 = true
    · have hb := pReadVar_ok s at_ ho
      have hgo := fun (hu : uOk s at_) => ih (uNext s at_) (acc ++ [uRec s at_]) (by have := uOk_next hu; omega) (uOk_next hu).2 (by have := uOk_next hu; omega) (by have := uOk_next hu; simp; omega)
      have hyes := fun (hu : uOk s at_) => pUnfr_yes (s := s) (f := d) (acc := acc) hu
      simp only [ho, if_true]
      refine Ev.bind (impl_within_ev _ _ _) ?_
      by_cases hn : 1 ≤ (pReadVar s at_).1 ∧ (pReadVar s at_).1 ≤ 9000
      · simp only [hn, and_self, decide_true, if_true]
        have e1 : wrap64 ((pReadVar s at_).1 + 4) = (pReadVar s at_).1 + 4 := w64 (by omega) (by omega)
        have e2 : wrap64 ((s.size : Int) - (pReadVar s at_).2.1) = s.size - (pReadVar s at_).2.1 := w64 (by omega) (by omega)
        rw [e1, e2]
        by_cases hq : (pReadVar s at_).1 + 4 > s.size - (pReadVar s at_).2.1
        · simp only [hq, decide_true]
          exact hstop (fun hu => by have := hu.2.2.1; omega) _ _
        · simp only [hq, decide_false]
          apply ev_succ
          have e3 : wrap64 ((pReadVar s at_).2.1 + 4) = (pReadVar s at_).2.1 + 4 := w64 (by omega) (by omega)
          have e4 : wrap64 ((pReadVar s at_).2.1 + 4 + (pReadVar s at_).1) = (pReadVar s at_).2.1 + 4 + (pReadVar s at_).1 := w64 (by omega) (by omega)
          have k1 : 0 ≤ (pReadVar s at_).2.1 + 4 := by omega
          have k2 : (pReadVar s at_).2.1 + 4 ≤ (pReadVar s at_).2.1 + 4 + (pReadVar s at_).1 := by omega
          have k3 : (pReadVar s at_).2.1 + 4 + (pReadVar s at_).1 ≤ (s.size : Int) := by omega
          have k4 : 0 ≤ (pReadVar s at_).2.1 := by omega
          have k5 : (pReadVar s at_).2.1 ≤ (pReadVar s at_).2.1 + 4 := by omega
          have k6 : (pReadVar s at_).2.1 + 4 ≤ (s.size : Int) := by omega
          have hsz : (uRec s at_).size ≤ 140737488351232 := by unfold uRec; rw [size_ext]; omega
          simp only [impl_Unframe.j1, Bool.false_eq_true, if_false, e3, e4, k1, k2, k3, if_true]
          refine Ev.bind (impl_sumText_ev (uRec s at_) hsz) ?_
          have ha : acc.length < 8796093022208 := by omega
          simp only [k4, k5, k6, if_true, toList_iff, ha]
          by_cases hx : strOfNums (four (sumN (uRec s at_))) = s.extract (pReadVar s at_).2.1.toNat ((pReadVar s at_).2.1 + 4).toNat
          · have hu : uOk s at_ := ⟨ho, hn, by omega, hx⟩
            rw [hyes hu]
            simp only [hx, if_true]
            exact hgo hu
          · rw [pUnfr_no (fun hu => hx hu.2.2.2)]
            simp only [hx, if_false]
            exact Ev.now _
      · simp only [hn, decide_false, Bool.false_eq_true, if_false]
        exact hstop (fun hu => hn hu.2.1) _ _
    · simp only [ho, if_false]
      exact hstop (fun hu => ho hu.1) _ _
theorem impl_Unframe_ev (s : ByteArray) (hs : s.size ≤ 1048576) : Ev (fun k => impl_Unframe.f k s) (pUnframe s) := by
  simp only [impl_Unframe.f]
  by_cases h : s.size ≤ 20000
  · rw [pUnframe, if_pos h]
    exact impl_Unframe_l0 s h (s.size + 1) 0 [] (by omega) (by omega) (by omega) (by simp)
  · rw [pUnframe, if_neg h]
    apply ev_succ
    have c : ¬ (s.size : Int) ≤ 20000 := by omega
    simp only [impl_Unframe.l0, c, if_false]
    exact Ev.now _

theorem laws_sameTexts_ev (l : List ByteArray) (hl : l.length ≤ 1048576) : Ev (fun k => laws_sameTexts.f k l l) true := by
  simp only [laws_sameTexts.f, if_true]
  have key := loop_up (fun k (_ : Unit) i => laws_sameTexts.l0 k l l i) (l.length : Int) true (fun _ _ => True)
    (fun _ _ => by
      have c : ¬ (l.length : Int) < (l.length : Int) := by omega
      simp only [laws_sameTexts.l0, c, if_false]
      exact Ev.now _)
    (fun _ i h0 h1 _ ih => by
      have e2 : wrap64 (i + 1) = i + 1 := w64 (by omega) (by omega)
      simp only [laws_sameTexts.l0, h1, h0, if_true, e2]
      exact ih () trivial)
  exact key l.length 0 () (by omega) (by omega) trivial

theorem fr_step (p : List Int) (ls : List ByteArray) (x5 : ByteArray) (x6 : List Int) (i : Int) (t : ByteArray) (hi : 0 ≤ i ∧ i < ls.length) (hls : ls.length ≤ 10) (ht : rdOf ByteArray.empty ls i = t) (hts : 1 ≤ t.size ∧ t.size ≤ 9000)
    (h5 : x5.size ≤ 100000) (h6 : x6.length ≤ 100) (next : Ev (fun k => laws_FnFrames.l0 k p ls (x5 ++ frameB t) (x6 ++ [((x5 ++ frameB t).size : Int)]) (i + 1)) true) : Ev (fun k => laws_FnFrames.l0 k p ls x5 x6 i) true := by
  apply ev_succ
  have e1 : wrap64 (i + 1) = i + 1 := w64 (by omega) (by omega)
  have hv := varN_len5 (n := t.size) (by omega)
  have c1 : x5.size + (frameB t).size ≤ 9223372036854775807 := by rw [frame_size, fsz]; omega
  have c2 : x6.length < 17592186044416 := by omega
  simp only [laws_FnFrames.l0, hi.1, hi.2, if_true, ht, e1]
  refine Ev.bind (impl_Frame_ev t (by omega)) ?_
  rw [pFrame_yes hts]
  simp only [if_true, c1, c2]
  exact next
theorem fr_zero {l : List ByteArray} (h : l.length = 3) : ¬ (0 + 1 + 1 + 1 : Int) < (l.length : Int) := by omega
/-- What is asked of the cut frames. -/
theorem fr_end (p : List Int) (hp : p.length = 12) (hpx : ∀ x ∈ p, 0 ≤ x ∧ x < 10000) (L : List ByteArray) (E : List Int) (F : ByteArray) (hl : L.length = 3) (hE : E.length = 4) (hrd : ∀ m : Nat, m ≤ 3 → rd E (m : Int) = (fend (L.take m) : Int))
    (hL : ∀ t ∈ L, 1 ≤ t.size ∧ t.size ≤ 9000) (hFs : F.size ≤ 20000) (hFb : bytesOf F = framesL L) : Ev (fun k => laws_FnFrames.j3 k p L F E false) true := by
  have hmem : rd p 0 ∈ p := by
    cases p with
    | nil => simp at hp
    | cons x p => exact List.mem_cons_self
  have hq := tmod_in (n := (F.size : Int) + 1) (hpx _ hmem).1 (by omega)
  have c4 : ¬ (F.size : Int) + 1 = 0 := by omega
  have c5 : 0 < (p.length : Int) := by omega
  obtain ⟨q, hqe⟩ : ∃ q : Int, Int.tmod (rd p 0) ((F.size : Int) + 1) = q := ⟨_, rfl⟩
  rw [hqe] at hq
  have c6 : q ≤ (F.size : Int) := by omega
  have hsz : (F.extract 0 q.toNat).size = q.toNat := by rw [size_ext]; omega
  have hEx : bytesOf (F.extract 0 q.toNat) = (framesL L).take q.toNat := by rw [bytes_ext, hFb, List.drop_zero, Nat.sub_zero]
  have hV := unframe_frames (F.extract 0 q.toNat) L q.toNat hL (by omega) hsz.symm hEx
  have hm := fits_le L q.toNat
  have hm1 := fits_fend L q.toNat
  have hm2 := fits_next L q.toNat
  obtain ⟨m, hme⟩ : ∃ m, fits q.toNat L = m := ⟨_, rfl⟩
  rw [hme] at hV hm hm1 hm2
  have ht : (L.take m).length = m := by rw [List.length_take]; omega
  have c7 : ((L.take m).length : Int) ≤ 3 := by omega
  have c8 : (0 : Int) ≤ ((L.take m).length : Int) := by omega
  have c9 : ((L.take m).length : Int) < (E.length : Int) := by omega
  have c10 : rd E ((L.take m).length : Int) = (fend (L.take m) : Int) := by rw [ht]; exact hrd m (by omega)
  have c11 : ((fend (L.take m) : Nat) : Int) ≤ q := by omega
  have c12 : ((L.take m).length : Int) ≤ (L.length : Int) := by omega
  have c13 : L.take (((L.take m).length : Int)).toNat = L.take m := by rw [ht, show ((m : Int)).toNat = m by omega]
  have c14 : (F.extract 0 q.toNat).size ≤ 1048576 := by omega
  have c15 : (L.take m).length ≤ 1048576 := by omega
  have fin : Ev (fun k => if ((L.take m).length : Int) = 3 then some true else if (0 : Int) ≤ wrap64 (((L.take m).length : Int) + 1) then (if wrap64 (((L.take m).length : Int) + 1) < (E.length : Int) then some (decide (rd E (wrap64 (((L.take m).length : Int) + 1)) > q)) else none) else none) true := by
    by_cases c : ((L.take m).length : Int) = 3
    · rw [if_pos c]
      exact Ev.now _
    · have d1 : (0 : Int) ≤ ((L.take m).length : Int) + 1 := by omega
      have d2 : ((L.take m).length : Int) + 1 < (E.length : Int) := by omega
      have d3 : rd E (((L.take m).length : Int) + 1) = (fend (L.take (m + 1)) : Int) := by
        rw [ht, show (m : Int) + 1 = ((m + 1 : Nat) : Int) by omega]
        exact hrd (m + 1) (by omega)
      have d4 := hm2 (by omega)
      have d5 : ((fend (L.take (m + 1)) : Nat) : Int) > q := by omega
      have e2 : wrap64 (((L.take m).length : Int) + 1) = ((L.take m).length : Int) + 1 := w64 (by omega) (by omega)
      rw [if_neg c, e2, if_pos d1, if_pos d2, d3]
      apply ev_some
      exact decide_eq_true d5
  have e1 : wrap64 ((F.size : Int) + 1) = F.size + 1 := w64 (by omega) (by omega)
  apply ev_succ
  simp only [laws_FnFrames.j3, Bool.false_eq_true, if_false, c5, if_true, e1, c4, hqe, hq.1, c6]
  refine Ev.bind (impl_Unframe_ev _ c14) ?_
  rw [hV]
  simp only [c7, c8, c9, c10, c11, c12, c13, if_true]
  refine Ev.bind (laws_sameTexts_ev _ c15) ?_
  simp only [if_true]
  exact fin
theorem fr_mid (p : List Int) (hp : p.length = 12) (hpx : ∀ x ∈ p, 0 ≤ x ∧ x < 10000) (L : List ByteArray) (E : List Int) (F : ByteArray) (hl : L.length = 3) (hE : E.length = 4) (hrd : ∀ m : Nat, m ≤ 3 → rd E (m : Int) = (fend (L.take m) : Int))
    (hL : ∀ t ∈ L, 1 ≤ t.size ∧ t.size ≤ 9000) (hFs : F.size ≤ 20000) (hFb : bytesOf F = framesL L) : Ev (fun k => laws_FnFrames.l0 k p L F E (0 + 1 + 1 + 1)) true := by
  have hz : fend L = F.size := by rw [← framesL_len, ← hFb, bytes_len]
  have hU := unframe_frames F L (fend L) hL hFs hz (by rw [hFb, ← framesL_len, List.take_length])
  rw [fits_all _ _ (Nat.le_refl _), List.take_length, hz] at hU
  apply ev_succ
  have c3 := fr_zero hl
  simp only [laws_FnFrames.l0, c3, if_false]
  refine Ev.bind (impl_Unframe_ev F (by omega)) ?_
  rw [hU]
  simp only [if_true]
  refine Ev.bind (laws_sameTexts_ev _ (by omega)) ?_
  exact fr_end p hp hpx L E F hl hE hrd hL hFs hFb
theorem fr_all (p : List Int) (hp : p.length = 12) (hpx : ∀ x ∈ p, 0 ≤ x ∧ x < 10000) (a b c : ByteArray) (ha : 1 ≤ a.size ∧ a.size ≤ 900) (hb : 1 ≤ b.size ∧ b.size ≤ 900) (hc : 1 ≤ c.size ∧ c.size ≤ 900) :
    Ev (fun k => laws_FnFrames.j1 k p [a, b, c]) true := by
  apply ev_succ
  simp only [laws_FnFrames.j1]
  have hva := varN_len5 (n := a.size) (by omega)
  have hvb := varN_len5 (n := b.size) (by omega)
  have hvc := varN_len5 (n := c.size) (by omega)
  have za : (⟨#[]⟩ ++ frameB a : ByteArray).size = fsz a := by rw [nil_app, frame_size]
  have zb : ((⟨#[]⟩ ++ frameB a : ByteArray) ++ frameB b).size = fsz a + fsz b := by rw [size_app, za, frame_size]
  have zc : (((⟨#[]⟩ ++ frameB a : ByteArray) ++ frameB b) ++ frameB c).size = fsz a + fsz b + fsz c := by rw [size_app, zb, frame_size]
  have ka : fsz a ≤ 909 := by unfold fsz; omega
  have kb : fsz b ≤ 909 := by unfold fsz; omega
  have kc : fsz c ≤ 909 := by unfold fsz; omega
  refine fr_step p _ _ _ 0 a ⟨by omega, by simp⟩ (by simp) rfl (by omega) (by show (0 : Nat) ≤ _; omega) (by simp) ?_
  refine fr_step p _ _ _ (0 + 1) b ⟨by omega, by simp⟩ (by simp) rfl (by omega) (by rw [za]; omega) (by simp) ?_
  refine fr_step p _ _ _ (0 + 1 + 1) c ⟨by omega, by simp⟩ (by simp) rfl (by omega) (by rw [zb]; omega) (by simp) ?_
  rw [za, zb, zc]
  refine fr_mid p hp hpx [a, b, c] _ _ rfl rfl ?_ ?_ (by rw [zc]; omega) ?_
  · intro m hm
    have h3 : m = 0 ∨ m = 1 ∨ m = 2 ∨ m = 3 := by omega
    rcases h3 with rfl | rfl | rfl | rfl
    · rfl
    · show ((fsz a : Nat) : Int) = ((fsz a + 0 : Nat) : Int)
      omega
    · show ((fsz a + fsz b : Nat) : Int) = ((fsz a + (fsz b + 0) : Nat) : Int)
      omega
    · show ((fsz a + fsz b + fsz c : Nat) : Int) = ((fsz a + (fsz b + (fsz c + 0)) : Nat) : Int)
      omega
  · intro t ht
    simp only [List.mem_cons, List.not_mem_nil, or_false] at ht
    rcases ht with rfl | rfl | rfl <;> omega
  · rw [bytes_app, bytes_app, bytes_app]
    simp [framesL, bytesOf]
def two : ByteArray := ⟨#[116, 119, 111]⟩
def three : ByteArray := ⟨#[116, 104, 114, 101, 101, 32, 97, 110, 100, 32, 109, 111, 114, 101]⟩
theorem FnFrames : laws_FnFrames.Pure := by
  intro l hm hl hx
  apply ev_rounds
  have hl' : l.length ≤ 140737488355328 := by omega
  simp only [laws_FnFrames.f, laws_big.f, Option.bind_some]
  by_cases cb : (l.length : Int) > 1048576
  · simp only [cb, decide_true, if_true]
    exact Ev.now _
  simp only [cb, decide_false, Bool.false_eq_true, if_false]
  obtain ⟨p, hp, hpl, hpx⟩ := spec_DrawPlaces_ev l hl'
  obtain ⟨a, ha, has⟩ := spec_DrawHex_ev l hl'
  refine Ev.bind hp ?_
  refine Ev.bind ha ?_
  have k0 : (0 : Int) < (([a, two, three] : List ByteArray).length : Int) := by simp
  have k1 : rdOf ByteArray.empty ([a, two, three] : List ByteArray) 0 = a := rfl
  have one := fr_all p hpl hpx (⟨#[111, 110, 101]⟩ : ByteArray) two three (by decide) (by decide) (by decide)
  show Ev (fun n => if (0 : Int) < (([a, two, three] : List ByteArray).length : Int) then (if ((rdOf ByteArray.empty ([a, two, three] : List ByteArray) 0).size : Int) = 0 then laws_FnFrames.j0 n p [a, two, three] true
    else laws_FnFrames.j0 n p [a, two, three] (decide (((rdOf ByteArray.empty ([a, two, three] : List ByteArray) 0).size : Int) > 900))) else none) true
  simp only [k0, if_true, k1]
  by_cases c0 : (a.size : Int) = 0
  · simp only [c0, if_true]
    apply ev_succ
    simp only [laws_FnFrames.j0, if_true, k0]
    exact one
  · simp only [c0, if_false]
    by_cases c1 : (a.size : Int) > 900
    · simp only [c1, decide_true]
      apply ev_succ
      simp only [laws_FnFrames.j0, if_true, k0]
      exact one
    · simp only [c1, decide_false]
      apply ev_succ
      simp only [laws_FnFrames.j0, Bool.false_eq_true, if_false]
      exact fr_all p hpl hpx a _ _ (by omega) (by decide) (by decide)

end Go.Proofs.Ytaainenplcokaaa.Pure
