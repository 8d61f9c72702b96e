/- Drawn numbers come back from their VarText and from their Decimal; drawn texts come back from their ShortText and from their Hex. -/
import Derived.Test.YtogifkjkbfdocaaDoorQFnNumbersx6
import Derived.Test.YtogifkjkbfdocaaDoorBaseL
import Derived.Test.YtogifkjkbfdocaaDoorBaseV
import Derived.Test.YtogifkjkbfdocaaDoorBaseS
import Derived.Test.YtogifkjkbfdocaaDoorBaseD
import Derived.Test.YtogifkjkbfdocaaDoorBaseD
import Derived.Test.YtogifkjkbfdocaaDoorNumerals
namespace Go.Proofs.YtogifkjkbfdocaaDoor.Pure
open Go.RowKit Go.Proofs.YtogifkjkbfdocaaDoor.QFnNumbers Go.Proofs.YtogifkjkbfdocaaDoorW.PrintWords Go.Proofs.YtogifkjkbfdocaaDoorW.PrintLast Go.Proofs.YtogifkjkbfdocaaDoorW.PrintMore Go.Proofs.YtogifkjkbfdocaaDoor.Base
open Go.Proofs.YtogifkjkbfdocaaDoor.Numerals
set_option linter.unusedVariables false
set_option linter.unusedSimpArgs false

theorem spec_l01New_l0 (l : List Int) (hl : l.length ≤ 140737488355328) : ∀ (d : Nat) (i h : Int), 0 ≤ i → i + d = l.length → ∃ g : Int, Ev (fun k => spec_l01New.l0 k l h i) (l, 0, g) := by
  intro d
  induction d with
  | zero =>
    intro i h h0 hd
    refine ⟨h, ev_succ ?_⟩
    have c : ¬ i < (l.length : Int) := by omega
    simp only [spec_l01New.l0, c, if_false]
    exact Ev.now _
  | succ d ih =>
    intro i h h0 hd
    have c : i < (l.length : Int) := by omega
    by_cases c2 : i < 4000
    · obtain ⟨g, hg⟩ := ih (i + 1) (Go.bits .and .i64 (wrap64 ((wrap64 ((wrap64 (h * 131)) + (wrap64 (rd l i)))) + 7)) 1073741823) (by omega) (by omega)
      refine ⟨g, ev_succ ?_⟩
      have e : wrap64 (i + 1) = i + 1 := w64 (by omega) (by omega)
      simp only [spec_l01New.l0, c, c2, h0, if_true, e]
      exact hg
    · refine ⟨h, ev_succ ?_⟩
      simp only [spec_l01New.l0, c, c2, if_true, if_false]
      exact Ev.now _
theorem spec_l01New_ev (l : List Int) (hl : l.length ≤ 140737488355328) : ∃ g : Int, Ev (fun k => spec_l01New.f k l) (l, 0, g) := by
  obtain ⟨g, hg⟩ := spec_l01New_l0 l hl l.length 0 (wrap64 (37401 + (l.length : Int))) (by omega) (by omega)
  exact ⟨g, by simp only [spec_l01New.f]; exact hg⟩
theorem spec_l01Byte_ev (s : List Int) (i h : Int) (hi : 0 ≤ i ∧ i ≤ s.length) (hs : s.length ≤ 140737488355328) : ∃ x j g, spec_l01Byte.f s i h = some (x, j, g) ∧ (0 ≤ x ∧ x ≤ 255) ∧ 0 ≤ j ∧ j ≤ (s.length : Int) := by
  by_cases c : i < (s.length : Int)
  · have e : wrap64 (i + 1) = i + 1 := w64 (by omega) (by omega)
    refine ⟨_, i + 1, _, by simp only [spec_l01Byte.f, c, hi.1, if_true, e]; rfl, and255 _, by omega, by omega⟩
  · refine ⟨_, i, _, by simp only [spec_l01Byte.f, c, if_false]; rfl, and255 _, hi⟩
theorem spec_l01Below_ev (s : List Int) (i h n : Int) (hi : 0 ≤ i ∧ i ≤ s.length) (hs : s.length ≤ 140737488355328) : ∃ x j g, spec_l01Below.f s i h n = some (x, j, g) ∧ (n ≤ 0 → x = 0) ∧ (0 < n → 0 ≤ x ∧ x < n) ∧ 0 ≤ j ∧ j ≤ (s.length : Int) := by
  by_cases c1 : n ≤ 0
  · exact ⟨0, i, h, by simp only [spec_l01Below.f, c1, if_true], fun _ => rfl, fun h => by omega, hi⟩
  have c3 : ¬ n = 0 := by omega
  by_cases c2 : n ≤ 256
  · obtain ⟨x, j, g, e, hx, hj⟩ := spec_l01Byte_ev s i h hi hs
    refine ⟨Int.tmod x n, j, g, by simp only [spec_l01Below.f, c1, c2, c3, if_true, if_false, e, Option.bind_some], fun h => absurd h c1, fun hn => tmod_in hx.1 hn, hj⟩
  · obtain ⟨x1, j1, g1, e1, hx1, hj1⟩ := spec_l01Byte_ev s i h hi hs
    obtain ⟨x2, j2, g2, e2, hx2, hj2⟩ := spec_l01Byte_ev s j1 g1 hj1 hs
    obtain ⟨x3, j3, g3, e3, hx3, hj3⟩ := spec_l01Byte_ev s j2 g2 hj2 hs
    obtain ⟨x4, j4, g4, e4, hx4, hj4⟩ := spec_l01Byte_ev s j3 g3 hj3 hs
    have f1 : wrap64 (x1 * 16777216) = x1 * 16777216 := w64 (by omega) (by omega)
    have f2 : wrap64 (x2 * 65536) = x2 * 65536 := w64 (by omega) (by omega)
    have f3 : wrap64 (x3 * 256) = x3 * 256 := w64 (by omega) (by omega)
    have f4 : wrap64 (x1 * 16777216 + x2 * 65536) = x1 * 16777216 + x2 * 65536 := w64 (by omega) (by omega)
    have f5 : wrap64 (x1 * 16777216 + x2 * 65536 + x3 * 256) = x1 * 16777216 + x2 * 65536 + x3 * 256 := w64 (by omega) (by omega)
    have f6 : wrap64 (x1 * 16777216 + x2 * 65536 + x3 * 256 + x4) = x1 * 16777216 + x2 * 65536 + x3 * 256 + x4 := w64 (by omega) (by omega)
    refine ⟨Int.tmod (x1 * 16777216 + x2 * 65536 + x3 * 256 + x4) n, j4, g4, by simp only [spec_l01Below.f, c1, c2, c3, if_false, e1, e2, e3, e4, Option.bind_some, f1, f2, f3, f4, f5, f6], fun h => absurd h c1, fun hn => tmod_in (by omega) hn, hj4⟩

theorem spec_l01PickInt_ev (s : List Int) (i h : Int) (xs : List Int) (hx : 0 < (xs.length : Int)) (hi : 0 ≤ i ∧ i ≤ s.length) (hs : s.length ≤ 140737488355328) : ∃ x j g, spec_l01PickInt.f s i h xs = some (x, j, g) ∧ 0 ≤ j ∧ j ≤ (s.length : Int) := by
  obtain ⟨x, j, g, e, _, hb, hj⟩ := spec_l01Below_ev s i h (xs.length : Int) hi hs
  have hb := hb hx
  exact ⟨rd xs x, j, g, by simp only [spec_l01PickInt.f, e, Option.bind_some, hb.1, hb.2, if_true], hj⟩
theorem spec_l01Number_ev (s : List Int) (i h : Int) (hi : 0 ≤ i ∧ i ≤ s.length) (hs : s.length ≤ 140737488355328) : ∃ x j g, spec_l01Number.f s i h = some (x, j, g) := by
  obtain ⟨x, j, g, e, _, _, hj⟩ := spec_l01Below_ev s i h 4 hi hs
  by_cases c0 : x = 0
  · obtain ⟨y, j2, g2, e2, _⟩ := spec_l01PickInt_ev s j g ([(-1), 0, 127, 128, 16383, 16384, 1000000000, 1000000001, 9223372036854775807, (-9223372036854775808)] : List Int) (by decide) hj hs
    exact ⟨y, j2, g2, by simp only [spec_l01Number.f, e, Option.bind_some, c0, if_true, e2]⟩
  · by_cases c1 : x = 1
    · subst c1
      obtain ⟨y, j2, g2, e2, _⟩ := spec_l01Below_ev s j g 1000000000 hj hs
      exact ⟨y, j2, g2, by simp only [spec_l01Number.f, e, Option.bind_some, c0, if_false, if_true, e2]⟩
    · obtain ⟨y, j2, g2, e2, _⟩ := spec_l01Below_ev s j g 400 hj hs
      exact ⟨y, j2, g2, by simp only [spec_l01Number.f, e, Option.bind_some, c0, c1, if_false, e2]⟩
theorem spec_DrawVarText_ev (l : List Int) (hl : l.length ≤ 140737488355328) : ∃ n, Ev (fun k => spec_DrawVarText.f k l) n := by
  obtain ⟨g, hg⟩ := spec_l01New_ev l hl
  obtain ⟨x, j, g2, e⟩ := spec_l01Number_ev l 0 g ⟨by omega, by omega⟩ hl
  refine ⟨x, ?_⟩
  simp only [spec_DrawVarText.f]
  refine Ev.bind hg ?_
  simp only [e, Option.bind_some]
  exact Ev.now _

theorem spec_l01Text_l0 (s : List Int) (hs : s.length ≤ 140737488355328) (n : Int) (hn : n ≤ 5000) : ∀ (d : Nat) (i : Int) (acc : List Int) (j g : Int), 0 ≤ i → i + d = n → (acc.length : Int) = i → 0 ≤ j ∧ j ≤ (s.length : Int) →
    ∃ t j2 g2, Ev (fun k => spec_l01Text.l0 k n acc i s j g) (t, j2, g2) ∧ (t.size : Int) = n ∧ 0 ≤ j2 ∧ j2 ≤ (s.length : Int) := by
  intro d
  induction d with
  | zero =>
    intro i acc j g h0 hd hl hj
    refine ⟨strOfNums acc, j, g, ev_succ ?_, by rw [str_len]; omega, hj⟩
    have c : ¬ i < n := by omega
    simp only [spec_l01Text.l0, c, if_false]
    exact Ev.now _
  | succ d ih =>
    intro i acc j g h0 hd hl hj
    have c : i < n := by omega
    obtain ⟨x, j2, g2, e, _, hj2⟩ := spec_l01Byte_ev s j g hj hs
    obtain ⟨t, j3, g3, hp, hp2⟩ := ih (i + 1) (acc ++ [x % 256]) j2 g2 (by omega) (by omega) (by rw [List.length_append]; simp; omega) hj2
    refine ⟨t, j3, g3, ev_succ ?_, hp2⟩
    have e1 : wrap64 (i + 1) = i + 1 := w64 (by omega) (by omega)
    have c2 : acc.length < 140737488355328 := by omega
    simp only [spec_l01Text.l0, c, if_true, e, Option.bind_some, c2, e1]
    exact hp
theorem spec_l01Text_ev (s : List Int) (i h n : Int) (hi : 0 ≤ i ∧ i ≤ s.length) (hs : s.length ≤ 140737488355328) (hn : 0 ≤ n) : ∃ t j g, Ev (fun k => spec_l01Text.f k s i h n) (t, j, g) ∧ (t.size : Int) ≤ n ∧ (t.size : Int) ≤ 5000 ∧ 0 ≤ j ∧ j ≤ (s.length : Int) := by
  by_cases c : n > 5000
  · obtain ⟨t, j, g, hp, h1, h2⟩ := spec_l01Text_l0 s hs 5000 (by omega) 5000 0 [] i h (by omega) (by omega) rfl hi
    refine ⟨t, j, g, ?_, by omega, by omega, h2⟩
    simp only [spec_l01Text.f, c, if_true]
    apply ev_succ
    simp only [spec_l01Text.j0]
    exact hp
  · obtain ⟨t, j, g, hp, h1, h2⟩ := spec_l01Text_l0 s hs n (by omega) n.toNat 0 [] i h (by omega) (by omega) rfl hi
    refine ⟨t, j, g, ?_, by omega, by omega, h2⟩
    simp only [spec_l01Text.f, c, if_false]
    apply ev_succ
    simp only [spec_l01Text.j0]
    exact hp

theorem spec_l01Once_ev (s : List Int) (i h n : Int) (hi : 0 ≤ i ∧ i ≤ s.length) (hs : s.length ≤ 140737488355328) : ∃ b j g, spec_l01Once.f s i h n = some (b, j, g) ∧ 0 ≤ j ∧ j ≤ (s.length : Int) := by
  obtain ⟨x, j, g, e, _, _, hj⟩ := spec_l01Below_ev s i h n hi hs
  exact ⟨x == 0, j, g, by simp only [spec_l01Once.f, e, Option.bind_some], hj⟩

theorem spec_l01Long_l0 (n x : Int) (hn : n ≤ 1048576) : ∀ (d : Nat) (i : Int) (acc : List Int), 0 ≤ i → i + d = n → (acc.length : Int) = n →
    ∃ t, Ev (fun k => spec_l01Long.l0 k n x acc i) t ∧ (t.size : Int) = n := by
  intro d
  induction d with
  | zero =>
    intro i acc h0 hd hl
    refine ⟨strOfNums acc, ev_succ ?_, by rw [str_len]; exact hl⟩
    have c : ¬ i < n := by omega
    simp only [spec_l01Long.l0, c, if_false]
    exact Ev.now _
  | succ d ih =>
    intro i acc h0 hd hl
    have c : i < n := by omega
    have c2 : i < (acc.length : Int) := by omega
    obtain ⟨t, hp, hp2⟩ := ih (i + 1) (acc.set i.toNat x) (by omega) (by omega) (by rw [List.length_set]; exact hl)
    refine ⟨t, ev_succ ?_, hp2⟩
    have e1 : wrap64 (i + 1) = i + 1 := w64 (by omega) (by omega)
    simp only [spec_l01Long.l0, c, c2, h0, if_true, e1]
    exact hp
theorem spec_l01Long_ev (n x : Int) (h0 : 0 ≤ n) (hn : n ≤ 1048576) : ∃ t, Ev (fun k => spec_l01Long.f k n x) t ∧ (t.size : Int) = n := by
  obtain ⟨t, hp, hp2⟩ := spec_l01Long_l0 n x hn n.toNat 0 (List.replicate n.toNat 0) (by omega) (by omega) (by rw [List.length_replicate]; omega)
  refine ⟨t, ?_, hp2⟩
  have c : n.toNat ≤ 281474976710656 := by omega
  simp only [spec_l01Long.f, h0, c, if_true]
  exact hp
theorem spec_DrawHex_ev (l : List Int) (hl : l.length ≤ 140737488355328) : ∃ t, Ev (fun k => spec_DrawHex.f k l) t ∧ t.size ≤ 20001 := by
  obtain ⟨g, hg⟩ := spec_l01New_ev l hl
  obtain ⟨b, j, g2, e, hj⟩ := spec_l01Once_ev l 0 g 60 (by omega) hl
  cases b with
  | true =>
    obtain ⟨x, j2, g3, e2, _, hx, _⟩ := spec_l01Below_ev l j g2 2 hj hl
    have hx := hx (by decide)
    obtain ⟨t, ht, hts⟩ := spec_l01Long_ev (20000 + x) 200 (by omega) (by omega)
    refine ⟨t, ?_, by omega⟩
    have e3 : wrap64 (20000 + x) = 20000 + x := w64 (by omega) (by omega)
    simp only [spec_DrawHex.f]
    refine Ev.bind hg ?_
    simp only [e, Option.bind_some, if_true, e2, e3]
    exact Ev.bind ht (Ev.now _)
  | false =>
    obtain ⟨x, j2, g3, e2, _, hx, hj2⟩ := spec_l01Below_ev l j g2 30 hj hl
    have hx := hx (by decide)
    obtain ⟨t, j3, g4, ht, hts, _⟩ := spec_l01Text_ev l j2 g3 x hj2 hl hx.1
    refine ⟨t, ?_, by omega⟩
    simp only [spec_DrawHex.f]
    refine Ev.bind hg ?_
    simp only [e, Option.bind_some, Bool.false_eq_true, if_false, e2]
    exact Ev.bind ht (Ev.now _)

theorem impl_within_ev (a b c : Int) : Ev (fun _ => impl_within.f a b c) (decide (b ≤ a ∧ a ≤ c)) := by
  apply ev_const
  unfold impl_within.f
  by_cases h : a ≥ b
  · rw [if_pos h]; simp [show b ≤ a from h]
  · rw [if_neg h]; simp [show ¬ b ≤ a from h]

theorem impl_VarText_l0 (n : Nat) : ∀ xs : List Int, xs.length + n < 140737488355328 → Ev (fun k => impl_VarText.l0 k (n : Int) xs) (strOfNums (xs ++ varN n), true) := by
  induction n using Nat.strongRecOn with
  | ind n ih =>
    intro xs h
    apply ev_succ
    have c2 : xs.length < 140737488355328 := by omega
    by_cases hn : n ≤ 127
    · have c1 : ¬ (n : Int) > 127 := by omega
      simp only [impl_VarText.l0, c1, c2, if_true, if_false]
      apply ev_some
      rw [varN_small hn, show (n : Int) % 256 = n by omega]
    · have c1 : (n : Int) > 127 := by omega
      simp only [impl_VarText.l0, c1, c2, if_true, var_div n (by omega), var_mod n]
      have := ih (n / 128) (by omega) (xs ++ [((n % 128 + 128 : Nat) : Int)]) (by simp; omega)
      rw [varN_big hn]
      simpa using this
theorem impl_VarText_ev (n : Int) : Ev (fun k => impl_VarText.f k n) (pVarText n) := by
  simp only [impl_VarText.f]
  refine Ev.bind (impl_within_ev _ _ _) ?_
  by_cases h : 0 ≤ n ∧ n ≤ 1000000000
  · simp only [h, and_self, decide_true, if_true]
    obtain ⟨m, rfl⟩ := Int.eq_ofNat_of_zero_le h.1
    have := impl_VarText_l0 m [] (by simp; omega)
    rw [pVarText_yes h]
    simpa [varB] using this
  · simp only [h, decide_false, Bool.false_eq_true, if_false]
    rw [pVarText_no h]
    exact Ev.now _

theorem impl_ReadVar_i5 (s : ByteArray) (at_ n : Int) (l : List Int) (sc : Int) : Ev (fun k => impl_ReadVar.l0 k s at_ n 5) (rvOut (at_ + 5) (rvF 0 sc n false l)) := by
  apply ev_succ
  simp only [impl_ReadVar.l0, show ¬ (5 : Int) < 5 by decide, if_false]
  apply ev_succ
  simp only [impl_ReadVar.j1, Bool.false_eq_true, if_false]
  exact Ev.now _
theorem impl_ReadVar_i4 (s : ByteArray) (hs : s.size ≤ 140737488351232) (at_ : Int) (h0 : 0 ≤ at_) (h1 : at_ ≤ s.size) (n : Int) (hn0 : 0 ≤ n) (hn : n < 268435456) :
    Ev (fun k => impl_ReadVar.l0 k s at_ n 4) (rvOut (at_ + 4) (rvF 1 268435456 n false ((bytesOf s).drop (at_ + 4).toNat))) := by
  apply ev_succ
  have e1 : wrap64 (at_ + 4) = at_ + 4 := w64 (by omega) (by omega)
  simp only [impl_ReadVar.l0, show (4 : Int) < 5 by decide, if_true, e1]
  apply ev_succ
  by_cases c : at_ + 4 < (s.size : Int)
  · rw [drop_bt s (at_ + 4) (by omega) c]
    have br := bt_range s (at_ + 4)
    have e0 : 0 ≤ at_ + 4 := by omega
    have e7 : (at_ + 4 + 1).toNat = (at_ + 5).toNat := by omega
    rw [e7]
    simp only [impl_ReadVar.j1, c, decide_true, if_true, e0, e1]
    have hnext := fun (m : Int) (_ _ : True) => impl_ReadVar_i5 s at_ m ((bytesOf s).drop (at_ + 5).toNat) 34359738368
    generalize bt s (at_ + 4) = b at br hnext ⊢
    have e2 : wrap64 b = b := w64 (by omega) (by omega)
    have e3 : Int.tmod b 128 = b % 128 := Int.tmod_eq_emod_of_nonneg (by omega)
    have e4 : wrap64 (7 * 4) = 28 := wlit (by decide) (by decide) (by decide)
    have e5 : shl .i64 (b % 128) 28 = b % 128 * 268435456 := shl7 (b % 128) 28 (by omega) (by omega) (by decide)
    have e6 : wrap64 (n + b % 128 * 268435456) = n + b % 128 * 268435456 := w64 (by omega) (by omega)
    have e8 : wrap64 (4 + 1) = 5 := wlit (by decide) (by decide) (by decide)
    have e9 : wrap64 (at_ + 4 + 1) = at_ + 4 + 1 := w64 (by omega) (by omega)
    simp only [if_true, e1, e2, e3, e4, e5, e6, e8, e9, show (0 : Int) ≤ 28 by decide, show (4 : Int) > 0 by decide]
    by_cases hb : b > 127
    · have hh := hnext (n + b % 128 * 268435456) trivial trivial
      rw [rvF_more hb, rvOut_map]
      simp only [hb, if_true]
      simpa only [show at_ + 4 + 1 = at_ + 5 by omega, show (268435456 : Int) * 128 = 34359738368 by decide] using hh
    · by_cases hz : b = 0
      · rw [rvF_stop hb (Or.inl ⟨rfl, hz⟩)]
        simp only [hb, hz, if_true, if_false]
        exact Ev.now _
      · by_cases hg : n + b % 128 * 268435456 > 1000000000
        · rw [rvF_stop hb (Or.inr hg)]
          simp only [hb, hz, hg, if_true, if_false]
          exact Ev.now _
        · rw [rvF_take hb (by simp [hz]) hg]
          simp only [hb, hz, hg, if_false]
          exact Ev.now _
  · simp only [impl_ReadVar.j1, c, decide_false, Bool.false_eq_true, if_false]
    rw [List.drop_of_length_le (by rw [bytes_len]; omega)]
    exact Ev.now _
theorem impl_ReadVar_i3 (s : ByteArray) (hs : s.size ≤ 140737488351232) (at_ : Int) (h0 : 0 ≤ at_) (h1 : at_ ≤ s.size) (n : Int) (hn0 : 0 ≤ n) (hn : n < 2097152) :
    Ev (fun k => impl_ReadVar.l0 k s at_ n 3) (rvOut (at_ + 3) (rvF 2 2097152 n false ((bytesOf s).drop (at_ + 3).toNat))) := by
  apply ev_succ
  have e1 : wrap64 (at_ + 3) = at_ + 3 := w64 (by omega) (by omega)
  simp only [impl_ReadVar.l0, show (3 : Int) < 5 by decide, if_true, e1]
  apply ev_succ
  by_cases c : at_ + 3 < (s.size : Int)
  · rw [drop_bt s (at_ + 3) (by omega) c]
    have br := bt_range s (at_ + 3)
    have e0 : 0 ≤ at_ + 3 := by omega
    have e7 : (at_ + 3 + 1).toNat = (at_ + 4).toNat := by omega
    rw [e7]
    simp only [impl_ReadVar.j1, c, decide_true, if_true, e0, e1]
    have hnext := fun (m : Int) (hm0 : 0 ≤ m) (hm : m < 268435456) => impl_ReadVar_i4 s hs at_ h0 h1 m hm0 hm
    generalize bt s (at_ + 3) = b at br hnext ⊢
    have e2 : wrap64 b = b := w64 (by omega) (by omega)
    have e3 : Int.tmod b 128 = b % 128 := Int.tmod_eq_emod_of_nonneg (by omega)
    have e4 : wrap64 (7 * 3) = 21 := wlit (by decide) (by decide) (by decide)
    have e5 : shl .i64 (b % 128) 21 = b % 128 * 2097152 := shl7 (b % 128) 21 (by omega) (by omega) (by decide)
    have e6 : wrap64 (n + b % 128 * 2097152) = n + b % 128 * 2097152 := w64 (by omega) (by omega)
    have e8 : wrap64 (3 + 1) = 4 := wlit (by decide) (by decide) (by decide)
    have e9 : wrap64 (at_ + 3 + 1) = at_ + 3 + 1 := w64 (by omega) (by omega)
    simp only [if_true, e1, e2, e3, e4, e5, e6, e8, e9, show (0 : Int) ≤ 21 by decide, show (3 : Int) > 0 by decide]
    by_cases hb : b > 127
    · have hh := hnext (n + b % 128 * 2097152) (by omega) (by omega)
      rw [rvF_more hb, rvOut_map]
      simp only [hb, if_true]
      simpa only [show at_ + 3 + 1 = at_ + 4 by omega, show (2097152 : Int) * 128 = 268435456 by decide] using hh
    · by_cases hz : b = 0
      · rw [rvF_stop hb (Or.inl ⟨rfl, hz⟩)]
        simp only [hb, hz, if_true, if_false]
        exact Ev.now _
      · by_cases hg : n + b % 128 * 2097152 > 1000000000
        · rw [rvF_stop hb (Or.inr hg)]
          simp only [hb, hz, hg, if_true, if_false]
          exact Ev.now _
        · rw [rvF_take hb (by simp [hz]) hg]
          simp only [hb, hz, hg, if_false]
          exact Ev.now _
  · simp only [impl_ReadVar.j1, c, decide_false, Bool.false_eq_true, if_false]
    rw [List.drop_of_length_le (by rw [bytes_len]; omega)]
    exact Ev.now _
theorem impl_ReadVar_i2 (s : ByteArray) (hs : s.size ≤ 140737488351232) (at_ : Int) (h0 : 0 ≤ at_) (h1 : at_ ≤ s.size) (n : Int) (hn0 : 0 ≤ n) (hn : n < 16384) :
    Ev (fun k => impl_ReadVar.l0 k s at_ n 2) (rvOut (at_ + 2) (rvF 3 16384 n false ((bytesOf s).drop (at_ + 2).toNat))) := by
  apply ev_succ
  have e1 : wrap64 (at_ + 2) = at_ + 2 := w64 (by omega) (by omega)
  simp only [impl_ReadVar.l0, show (2 : Int) < 5 by decide, if_true, e1]
  apply ev_succ
  by_cases c : at_ + 2 < (s.size : Int)
  · rw [drop_bt s (at_ + 2) (by omega) c]
    have br := bt_range s (at_ + 2)
    have e0 : 0 ≤ at_ + 2 := by omega
    have e7 : (at_ + 2 + 1).toNat = (at_ + 3).toNat := by omega
    rw [e7]
    simp only [impl_ReadVar.j1, c, decide_true, if_true, e0, e1]
    have hnext := fun (m : Int) (hm0 : 0 ≤ m) (hm : m < 2097152) => impl_ReadVar_i3 s hs at_ h0 h1 m hm0 hm
    generalize bt s (at_ + 2) = b at br hnext ⊢
    have e2 : wrap64 b = b := w64 (by omega) (by omega)
    have e3 : Int.tmod b 128 = b % 128 := Int.tmod_eq_emod_of_nonneg (by omega)
    have e4 : wrap64 (7 * 2) = 14 := wlit (by decide) (by decide) (by decide)
    have e5 : shl .i64 (b % 128) 14 = b % 128 * 16384 := shl7 (b % 128) 14 (by omega) (by omega) (by decide)
    have e6 : wrap64 (n + b % 128 * 16384) = n + b % 128 * 16384 := w64 (by omega) (by omega)
    have e8 : wrap64 (2 + 1) = 3 := wlit (by decide) (by decide) (by decide)
    have e9 : wrap64 (at_ + 2 + 1) = at_ + 2 + 1 := w64 (by omega) (by omega)
    simp only [if_true, e1, e2, e3, e4, e5, e6, e8, e9, show (0 : Int) ≤ 14 by decide, show (2 : Int) > 0 by decide]
    by_cases hb : b > 127
    · have hh := hnext (n + b % 128 * 16384) (by omega) (by omega)
      rw [rvF_more hb, rvOut_map]
      simp only [hb, if_true]
      simpa only [show at_ + 2 + 1 = at_ + 3 by omega, show (16384 : Int) * 128 = 2097152 by decide] using hh
    · by_cases hz : b = 0
      · rw [rvF_stop hb (Or.inl ⟨rfl, hz⟩)]
        simp only [hb, hz, if_true, if_false]
        exact Ev.now _
      · by_cases hg : n + b % 128 * 16384 > 1000000000
        · rw [rvF_stop hb (Or.inr hg)]
          simp only [hb, hz, hg, if_true, if_false]
          exact Ev.now _
        · rw [rvF_take hb (by simp [hz]) hg]
          simp only [hb, hz, hg, if_false]
          exact Ev.now _
  · simp only [impl_ReadVar.j1, c, decide_false, Bool.false_eq_true, if_false]
    rw [List.drop_of_length_le (by rw [bytes_len]; omega)]
    exact Ev.now _
theorem impl_ReadVar_i1 (s : ByteArray) (hs : s.size ≤ 140737488351232) (at_ : Int) (h0 : 0 ≤ at_) (h1 : at_ ≤ s.size) (n : Int) (hn0 : 0 ≤ n) (hn : n < 128) :
    Ev (fun k => impl_ReadVar.l0 k s at_ n 1) (rvOut (at_ + 1) (rvF 4 128 n false ((bytesOf s).drop (at_ + 1).toNat))) := by
  apply ev_succ
  have e1 : wrap64 (at_ + 1) = at_ + 1 := w64 (by omega) (by omega)
  simp only [impl_ReadVar.l0, show (1 : Int) < 5 by decide, if_true, e1]
  apply ev_succ
  by_cases c : at_ + 1 < (s.size : Int)
  · rw [drop_bt s (at_ + 1) (by omega) c]
    have br := bt_range s (at_ + 1)
    have e0 : 0 ≤ at_ + 1 := by omega
    have e7 : (at_ + 1 + 1).toNat = (at_ + 2).toNat := by omega
    rw [e7]
    simp only [impl_ReadVar.j1, c, decide_true, if_true, e0, e1]
    have hnext := fun (m : Int) (hm0 : 0 ≤ m) (hm : m < 16384) => impl_ReadVar_i2 s hs at_ h0 h1 m hm0 hm
    generalize bt s (at_ + 1) = b at br hnext ⊢
    have e2 : wrap64 b = b := w64 (by omega) (by omega)
    have e3 : Int.tmod b 128 = b % 128 := Int.tmod_eq_emod_of_nonneg (by omega)
    have e4 : wrap64 (7 * 1) = 7 := wlit (by decide) (by decide) (by decide)
    have e5 : shl .i64 (b % 128) 7 = b % 128 * 128 := shl7 (b % 128) 7 (by omega) (by omega) (by decide)
    have e6 : wrap64 (n + b % 128 * 128) = n + b % 128 * 128 := w64 (by omega) (by omega)
    have e8 : wrap64 (1 + 1) = 2 := wlit (by decide) (by decide) (by decide)
    have e9 : wrap64 (at_ + 1 + 1) = at_ + 1 + 1 := w64 (by omega) (by omega)
    simp only [if_true, e1, e2, e3, e4, e5, e6, e8, e9, show (0 : Int) ≤ 7 by decide, show (1 : Int) > 0 by decide]
    by_cases hb : b > 127
    · have hh := hnext (n + b % 128 * 128) (by omega) (by omega)
      rw [rvF_more hb, rvOut_map]
      simp only [hb, if_true]
      simpa only [show at_ + 1 + 1 = at_ + 2 by omega, show (128 : Int) * 128 = 16384 by decide] using hh
    · by_cases hz : b = 0
      · rw [rvF_stop hb (Or.inl ⟨rfl, hz⟩)]
        simp only [hb, hz, if_true, if_false]
        exact Ev.now _
      · by_cases hg : n + b % 128 * 128 > 1000000000
        · rw [rvF_stop hb (Or.inr hg)]
          simp only [hb, hz, hg, if_true, if_false]
          exact Ev.now _
        · rw [rvF_take hb (by simp [hz]) hg]
          simp only [hb, hz, hg, if_false]
          exact Ev.now _
  · simp only [impl_ReadVar.j1, c, decide_false, Bool.false_eq_true, if_false]
    rw [List.drop_of_length_le (by rw [bytes_len]; omega)]
    exact Ev.now _
theorem impl_ReadVar_i0 (s : ByteArray) (hs : s.size ≤ 140737488351232) (at_ : Int) (h0 : 0 ≤ at_) (h1 : at_ ≤ s.size) (n : Int) (hn0 : 0 ≤ n) (hn : n < 1) :
    Ev (fun k => impl_ReadVar.l0 k s at_ n 0) (rvOut (at_ + 0) (rvF 5 1 n true ((bytesOf s).drop (at_ + 0).toNat))) := by
  apply ev_succ
  have e1 : wrap64 (at_ + 0) = at_ + 0 := w64 (by omega) (by omega)
  simp only [impl_ReadVar.l0, show (0 : Int) < 5 by decide, if_true, e1]
  apply ev_succ
  by_cases c : at_ + 0 < (s.size : Int)
  · rw [drop_bt s (at_ + 0) (by omega) c]
    have br := bt_range s (at_ + 0)
    have e0 : 0 ≤ at_ + 0 := by omega
    have e7 : (at_ + 0 + 1).toNat = (at_ + 1).toNat := by omega
    rw [e7]
    simp only [impl_ReadVar.j1, c, decide_true, if_true, e0, e1]
    have hnext := fun (m : Int) (hm0 : 0 ≤ m) (hm : m < 128) => impl_ReadVar_i1 s hs at_ h0 h1 m hm0 hm
    generalize bt s (at_ + 0) = b at br hnext ⊢
    have e2 : wrap64 b = b := w64 (by omega) (by omega)
    have e3 : Int.tmod b 128 = b % 128 := Int.tmod_eq_emod_of_nonneg (by omega)
    have e4 : wrap64 (7 * 0) = 0 := wlit (by decide) (by decide) (by decide)
    have e5 : shl .i64 (b % 128) 0 = b % 128 * 1 := shl7 (b % 128) 0 (by omega) (by omega) (by decide)
    have e6 : wrap64 (n + b % 128 * 1) = n + b % 128 * 1 := w64 (by omega) (by omega)
    have e8 : wrap64 (0 + 1) = 1 := wlit (by decide) (by decide) (by decide)
    have e9 : wrap64 (at_ + 0 + 1) = at_ + 0 + 1 := w64 (by omega) (by omega)
    simp only [if_true, e1, e2, e3, e4, e5, e6, e8, e9, show (0 : Int) ≤ 0 by decide, show ¬ (0 : Int) > 0 by decide, if_false]
    by_cases hb : b > 127
    · have hh := hnext (n + b % 128 * 1) (by omega) (by omega)
      rw [rvF_more hb, rvOut_map]
      simp only [hb, if_true]
      simpa only [show at_ + 0 + 1 = at_ + 1 by omega, show (1 : Int) * 128 = 128 by decide] using hh
    · by_cases hg : n + b % 128 * 1 > 1000000000
      · rw [rvF_stop hb (Or.inr hg)]
        simp only [hb, hg, if_true, if_false]
        exact Ev.now _
      · rw [rvF_take hb (by simp) hg]
        simp only [hb, hg, if_false]
        exact Ev.now _
  · simp only [impl_ReadVar.j1, c, decide_false, Bool.false_eq_true, if_false]
    rw [List.drop_of_length_le (by rw [bytes_len]; omega)]
    exact Ev.now _
theorem impl_ReadVar_ev (s : ByteArray) (hs : s.size ≤ 140737488351232) (at_ : Int) : Ev (fun k => impl_ReadVar.f k s at_) (pReadVar s at_) := by
  simp only [impl_ReadVar.f]
  refine Ev.bind (impl_within_ev _ _ _) ?_
  by_cases h : 0 ≤ at_ ∧ at_ ≤ (s.size : Int)
  · simp only [h, and_self, decide_true, if_true]
    rw [pReadVar_in h]
    have hh := impl_ReadVar_i0 s hs at_ h.1 h.2 0 (by decide) (by decide)
    simpa only [Int.add_zero] using hh
  · simp only [h, decide_false, Bool.false_eq_true, if_false]
    rw [pReadVar_out h]
    exact Ev.now _

theorem impl_ShortText_ev (s : ByteArray) (hs : s.size ≤ 140737488351232) : Ev (fun k => impl_ShortText.f k s) (pShortText s) := by
  simp only [impl_ShortText.f]
  by_cases h : (s.size : Int) > 20000
  · simp only [h, if_true]
    rw [pShortText_no (by omega)]
    exact Ev.now _
  · simp only [h, if_false]
    refine Ev.bind (impl_VarText_ev (s.size : Int)) ?_
    rw [pVarText_yes (by omega)]
    have hl := (varN_len s.size).2
    have c : (varB s.size).size + s.size ≤ 9223372036854775807 := by rw [varB, str_len]; omega
    simp only [Int.toNat_natCast, c, if_true]
    rw [pShortText_yes (by omega)]
    exact Ev.now _

theorem impl_ReadShort_ev (s : ByteArray) (hs : s.size ≤ 140737488351232) (at_ : Int) : Ev (fun k => impl_ReadShort.f k s at_) (pReadShort s at_) := by
  simp only [impl_ReadShort.f]
  refine Ev.bind (impl_ReadVar_ev s hs at_) ?_
  cases ho : (pReadVar s at_).2.2 with
  | false =>
    rw [pReadShort_no (by rw [ho]; simp)]
    simp only [Bool.false_eq_true, if_false]
    exact Ev.now _
  | true =>
    have hk := pReadVar_ok s at_ ho
    have e1 : wrap64 ((s.size : Int) - (pReadVar s at_).2.1) = s.size - (pReadVar s at_).2.1 := w64 (by omega) (by omega)
    have e2 : wrap64 ((pReadVar s at_).2.1 + (pReadVar s at_).1) = (pReadVar s at_).2.1 + (pReadVar s at_).1 := w64 (by omega) (by omega)
    simp only [if_true, e1, e2]
    by_cases c1 : (pReadVar s at_).1 > 20000
    · rw [pReadShort_no (by omega)]
      simp only [c1, if_true]
      exact Ev.now _
    · by_cases c2 : (pReadVar s at_).1 > s.size - (pReadVar s at_).2.1
      · rw [pReadShort_no (by omega)]
        simp only [c1, c2, if_true, if_false]
        exact Ev.now _
      · have k1 : 0 ≤ (pReadVar s at_).2.1 := by omega
        have k2 : (pReadVar s at_).2.1 ≤ (pReadVar s at_).2.1 + (pReadVar s at_).1 := by omega
        have k3 : (pReadVar s at_).2.1 + (pReadVar s at_).1 ≤ (s.size : Int) := by omega
        rw [pReadShort_yes ⟨ho, by omega, by omega⟩]
        simp only [c1, c2, k1, k2, k3, if_true, if_false]
        exact Ev.now _

theorem impl_Hex_l0 (s : ByteArray) (hs : s.size ≤ 20000) : ∀ (d : Nat) (i : Int) (xs : List Int), 0 ≤ i → i + d = s.size → xs.length + 2 * d ≤ 40000 →
    Ev (fun k => impl_Hex.l0 k s xs i) (strOfNums (xs ++ hexL ((bytesOf s).drop i.toNat)), true) := by
  intro d
  induction d with
  | zero =>
    intro i xs h0 h hx
    apply ev_succ
    have c : ¬ i < (s.size : Int) := by omega
    simp only [impl_Hex.l0, c, if_false]
    apply ev_some
    rw [List.drop_of_length_le (by rw [bytes_len]; omega)]; simp [hexL]
  | succ d ih =>
    intro i xs h0 h hx
    apply ev_succ
    have c : i < (s.size : Int) := by omega
    have br := bt_range s i
    have e2 : Int.tdiv (bt s i) 16 = bt s i / 16 := Int.tdiv_eq_ediv_of_nonneg (by omega)
    have e3 : Int.tmod (bt s i) 16 = bt s i % 16 := Int.tmod_eq_emod_of_nonneg (by omega)
    have e4 : bt s i / 16 % 256 = bt s i / 16 := by omega
    have e5 : wrap64 (i + 1) = i + 1 := w64 (by omega) (by omega)
    have k1 : 0 ≤ bt s i / 16 := by omega
    have k2 : bt s i / 16 < 16 := by omega
    have k3 : 0 ≤ bt s i % 16 := by omega
    have k4 : bt s i % 16 < 16 := by omega
    have c2 : xs.length + [fig (bt s i / 16), fig (bt s i % 16)].length < 140737488355328 := by simp; omega
    simp only [impl_Hex.l0, c, h0, if_true, e2, e3, e4, e5, k1, k2, k3, k4, fig_impl _ k1 k2, fig_impl _ k3 k4, Option.bind_some, c2]
    have hh := ih (i + 1) (xs ++ [fig (bt s i / 16), fig (bt s i % 16)]) (by omega) (by omega) (by simp; omega)
    rw [drop_bt s i h0 c]
    simpa [hexL] using hh
theorem impl_Hex_ev (s : ByteArray) : Ev (fun k => impl_Hex.f k s) (pHex s) := by
  simp only [impl_Hex.f]
  by_cases h : (s.size : Int) > 20000
  · simp only [h, if_true]
    rw [pHex_no (by omega)]
    exact Ev.now _
  · simp only [h, if_false]
    rw [pHex_yes (by omega)]
    simpa using impl_Hex_l0 s (by omega) s.size 0 [] (by omega) (by omega) (by simp; omega)

def hexVal (b : Int) : Int := Lib.indexByte (⟨#[48, 49, 50, 51, 52, 53, 54, 55, 56, 57, 97, 98, 99, 100, 101, 102]⟩ : ByteArray).data.toList b.toNat.toUInt8
def pUnL (t : ByteArray) : Nat → Int → List Int → ByteArray × Bool
  | 0, _, out => (strOfNums out, true)
  | d + 1, i, out => if hexVal (bt t i) < 0 then (⟨#[]⟩, false) else if hexVal (bt t (i + 1)) < 0 then (⟨#[]⟩, false) else pUnL t d (i + 2) (out ++ [wrap64 (wrap64 (16 * hexVal (bt t i)) + hexVal (bt t (i + 1))) % 256])
def pUnhex (t : ByteArray) : ByteArray × Bool := if t.size % 2 = 0 ∧ t.size ≤ 40000 then pUnL t (t.size / 2) 0 [] else (⟨#[]⟩, false)
theorem bt_in (t : ByteArray) (i : Int) : 0 ≤ bt t i ∧ bt t i < 256 := by
  unfold bt
  split
  · rename_i h
    have := UInt8.toNat_lt (t[i.toNat]'h)
    constructor <;> omega
  · constructor <;> omega
theorem idx_eq (b : Int) : strings_IndexByte.f (⟨#[48, 49, 50, 51, 52, 53, 54, 55, 56, 57, 97, 98, 99, 100, 101, 102]⟩ : ByteArray) b = some (hexVal b) := rfl
theorem impl_Unhex_l0 (t : ByteArray) (ht : t.size ≤ 40000) : ∀ (d : Nat) (i : Int) (out : List Int), 0 ≤ i → i + 2 * d = t.size → (out.length : Int) ≤ i → Ev (fun k => impl_Unhex.l0 k t out i) (pUnL t d i out) := by
  intro d
  induction d with
  | zero =>
    intro i out h0 h ho
    apply ev_succ
    have c : ¬ i < (t.size : Int) := by omega
    simp only [impl_Unhex.l0, c, if_false, pUnL]
    exact Ev.now _
  | succ d ih =>
    intro i out h0 h ho
    apply ev_succ
    have c : i < (t.size : Int) := by omega
    have e1 : wrap64 (i + 1) = i + 1 := w64 (by omega) (by omega)
    have e2 : wrap64 (i + 2) = i + 2 := w64 (by omega) (by omega)
    have c1 : 0 ≤ i + 1 := by omega
    have c2 : i + 1 < (t.size : Int) := by omega
    have c3 : out.length < 140737488355328 := by omega
    have hh := ih (i + 2) (out ++ [wrap64 (wrap64 (16 * hexVal (bt t i)) + hexVal (bt t (i + 1))) % 256]) (by omega) (by omega) (by rw [List.length_append, List.length_singleton]; omega)
    simp only [impl_Unhex.l0, idx_eq, c, h0, if_true, Option.bind_some, e1, e2, c1, c2, c3, pUnL]
    by_cases a1 : hexVal (bt t i) < 0
    · simp only [a1, if_true]
      exact Ev.now _
    · by_cases a2 : hexVal (bt t (i + 1)) < 0
      · simp only [a1, a2, if_true, if_false]
        exact Ev.now _
      · simp only [a1, a2, if_false]
        exact hh
theorem impl_Unhex_ev (t : ByteArray) : Ev (fun k => impl_Unhex.f k t) (pUnhex t) := by
  by_cases c : ((t.size : Int) % 2) = 0
  · simp only [impl_Unhex.f, c, if_true]
    apply ev_succ
    by_cases c2 : (t.size : Int) > 40000
    · simp only [impl_Unhex.j0, c2, decide_true, if_true]
      rw [pUnhex, if_neg (by omega)]
      exact Ev.now _
    · simp only [impl_Unhex.j0, c2, decide_false, Bool.false_eq_true, if_false]
      rw [pUnhex, if_pos (by omega)]
      exact impl_Unhex_l0 t (by omega) _ 0 [] (by omega) (by omega) (by simp)
  · simp only [impl_Unhex.f, c, if_false]
    apply ev_succ
    simp only [impl_Unhex.j0, if_true]
    rw [pUnhex, if_neg (by omega)]
    exact Ev.now _

theorem var_at {t : ByteArray} {a m : Nat} {rest : List Int} (hm : m ≤ 1000000000) (ha : a ≤ t.size) (h : (bytesOf t).drop a = varN m ++ rest) : pReadVar t (a : Int) = ((m : Int), (a : Int) + ((varB m).size : Int), true) := by
  have hin : 0 ≤ (a : Int) ∧ (a : Int) ≤ t.size := by omega
  rw [pReadVar_in hin, show ((a : Int)).toNat = a by omega, h]
  have := rvL_reads hm rest
  unfold rvL at this
  rw [this, varB, str_len]
  rfl
theorem var_back (m : Nat) (hm : m ≤ 1000000000) : pReadVar (((⟨#[120]⟩ : ByteArray) ++ varB m) ++ (⟨#[121]⟩ : ByteArray)) 1 = ((m : Int), 1 + ((varB m).size : Int), true) := by
  refine var_at (a := 1) (rest := [121]) hm ?_ ?_
  · rw [ByteArray.size_append, ByteArray.size_append]; show 1 ≤ 1 + (varB m).size + 1; omega
  · rw [bytes_app, bytes_app, varB, bytes_str (varN_isB m)]; rfl
theorem short_back (t : ByteArray) (ht : t.size ≤ 300) : pReadShort (varB t.size ++ t) 0 = (t, ((varB t.size ++ t).size : Int), true) := by
  have hr : pReadVar (varB t.size ++ t) 0 = ((t.size : Int), (0 : Int) + ((varB t.size).size : Int), true) := by
    refine var_at (a := 0) (rest := bytesOf t) (by omega) (by omega) ?_
    rw [bytes_app, varB, bytes_str (varN_isB _)]; rfl
  have hs : (varB t.size ++ t).size = (varB t.size).size + t.size := ByteArray.size_append
  rw [pReadShort_yes (by rw [hr]; simp only [true_and]; omega), hr]
  simp only [Prod.mk.injEq, and_true]
  refine ⟨?_, by omega⟩
  apply bytes_inj
  rw [bytes_ext, show ((0 : Int) + ((varB t.size).size : Int)).toNat = (varB t.size).size by omega, show ((0 : Int) + ((varB t.size).size : Int) + (t.size : Int)).toNat - (varB t.size).size = t.size by omega, bytes_app]
  rw [List.drop_left' (by rw [bytes_len]), List.take_of_length_le (by rw [bytes_len]; omega)]
theorem fig_B (d : Int) (h0 : 0 ≤ d) (h1 : d < 16) : 0 ≤ fig d ∧ fig d < 256 := by unfold fig; split <;> omega
theorem hexL_B : ∀ (l : List Int), IsB l → IsB (hexL l)
  | [], _ => fun x hx => by simp [hexL] at hx
  | c :: l, h => fun x hx => by
    have hc := h c List.mem_cons_self
    simp only [hexL, List.mem_cons] at hx
    rcases hx with rfl | rfl | hx
    · exact fig_B _ (by omega) (by omega)
    · exact fig_B _ (by omega) (by omega)
    · exact hexL_B l (fun y hy => h y (List.mem_cons_of_mem _ hy)) x hx
theorem hex_val_fin : ∀ d : Fin 16, hexVal (fig (d.val : Int)) = (d.val : Int) := by decide +kernel
theorem hex_val (d : Int) (h0 : 0 ≤ d) (h1 : d < 16) : hexVal (fig d) = d := by
  have := hex_val_fin ⟨d.toNat, by omega⟩
  rwa [show ((⟨d.toNat, by omega⟩ : Fin 16).val : Int) = d by show (d.toNat : Int) = d; omega] at this
theorem unL_back (u : ByteArray) : ∀ (r : List Int) (i : Int) (out : List Int), IsB r → 0 ≤ i → i + 2 * (r.length : Int) = u.size → (bytesOf u).drop i.toNat = hexL r → pUnL u r.length i out = (strOfNums (out ++ r), true)
  | [], _, out, _, _, _, _ => by rw [List.append_nil]; rfl
  | c :: r, i, out, hB, h0, hs, h => by
    have hc := hB c List.mem_cons_self
    simp only [List.length_cons] at hs
    have q0 : i < (u.size : Int) := by omega
    have q1 : i + 1 < (u.size : Int) := by omega
    rw [drop_bt u i h0 q0, hexL, List.cons.injEq, drop_bt u (i + 1) (by omega) q1, List.cons.injEq] at h
    obtain ⟨e1, e2, e3⟩ := h
    have ih := unL_back u r (i + 1 + 1) (out ++ [c]) (fun y hy => hB y (List.mem_cons_of_mem _ hy)) (by omega) (by omega) e3
    have n1 : ¬ c / 16 < 0 := by omega
    have n2 : ¬ c % 16 < 0 := by omega
    have w1 : wrap64 (16 * (c / 16)) = 16 * (c / 16) := w64 (by omega) (by omega)
    have w2 : wrap64 (16 * (c / 16) + c % 16) % 256 = c := by rw [w64 (by omega) (by omega)]; omega
    show pUnL u (r.length + 1) i out = _
    rw [pUnL, e1, e2, hex_val _ (by omega) (by omega), hex_val _ (by omega) (by omega), if_neg n1, if_neg n2, w1, w2, show i + 2 = i + 1 + 1 by omega, ih, List.append_assoc]
    rfl
theorem unhex_back (t : ByteArray) (ht : t.size ≤ 300) : pUnhex (strOfNums (hexL (bytesOf t))) = (t, true) := by
  have hl : (strOfNums (hexL (bytesOf t))).size = 2 * t.size := by rw [str_len, hexL_len, bytes_len]
  rw [pUnhex, if_pos (by omega), show (strOfNums (hexL (bytesOf t))).size / 2 = (bytesOf t).length by rw [bytes_len]; omega]
  rw [unL_back _ (bytesOf t) 0 [] (isB_bytes t) (by omega) (by rw [bytes_len]; omega) (by rw [bytes_str (hexL_B _ (isB_bytes t))]; rfl), List.nil_append, str_bytes]
theorem num_j2 (m : Int) (v t : ByteArray) (ht : t.size ≤ 300) (hv : v.size ≤ 5) : Ev (fun k => laws_FnNumbers.j2 k m v true m (1 + (v.size : Int)) true m true t) true := by
  have e : wrap64 ((v.size : Int) + 1) = 1 + (v.size : Int) := by rw [w64 (by omega) (by omega)]; omega
  have hs : (varB t.size ++ t).size ≤ 140737488351232 := by
    have := varB_size5 (n := t.size) (by omega)
    rw [ByteArray.size_append]; omega
  apply ev_succ
  simp only [laws_FnNumbers.j2]
  refine Ev.bind (impl_ShortText_ev t (by omega)) ?_
  rw [pShortText_yes (by omega)]
  refine Ev.bind (impl_ReadShort_ev (varB t.size ++ t) hs 0) ?_
  rw [short_back t ht]
  refine Ev.bind (impl_Hex_ev t) ?_
  rw [pHex_yes (by omega)]
  refine Ev.bind (impl_Unhex_ev (strOfNums (hexL (bytesOf t)))) ?_
  rw [unhex_back t ht]
  simp only [if_true, eq_self, e, beq_self_eq_true]
  exact Ev.now _
theorem num_j1 (l : List Int) (hl : l.length ≤ 140737488355328) (m : Int) (h0 : 0 ≤ m) (h1 : m ≤ 1000000000) : Ev (fun k => laws_FnNumbers.j1 k l m) true := by
  apply ev_succ
  simp only [laws_FnNumbers.j1]
  refine Ev.bind (impl_VarText_ev m) ?_
  rw [pVarText_yes ⟨h0, h1⟩]
  have s5 := varB_size5 (n := m.toNat) (by omega)
  have z1 : 1 + (varB m.toNat).size ≤ 9223372036854775807 := by omega
  have z3 : ((⟨#[120]⟩ : ByteArray) ++ varB m.toNat).size = 1 + (varB m.toNat).size := by rw [ByteArray.size_append]; rfl
  have z2 : ((⟨#[120]⟩ : ByteArray) ++ varB m.toNat).size + 1 ≤ 9223372036854775807 := by rw [z3]; omega
  simp only [z1, z2, if_true]
  have z4 : (((⟨#[120]⟩ : ByteArray) ++ varB m.toNat) ++ (⟨#[121]⟩ : ByteArray)).size ≤ 140737488351232 := by
    rw [ByteArray.size_append, z3]; show 1 + (varB m.toNat).size + 1 ≤ _; omega
  refine Ev.bind (impl_ReadVar_ev (((⟨#[120]⟩ : ByteArray) ++ varB m.toNat) ++ (⟨#[121]⟩ : ByteArray)) z4 1) ?_
  rw [var_back m.toNat (by omega), show ((m.toNat : Nat) : Int) = m by omega]
  have b0 : -9223372036854775808 ≤ m := by omega
  have b1 : m ≤ 9223372036854775807 := by omega
  have hd : impl_Decimal.f m = some ⟨(Lib.itoa m).toArray⟩ := by unfold impl_Decimal.f; rw [if_pos b0, if_pos b1]
  obtain ⟨hi, hi2⟩ := isDec_of h0 h1 rfl
  have hlen := isDec_len hi
  have hR : impl_ReadDecimal.f ⟨(Lib.itoa m).toArray⟩ = some (m, true) := by
    unfold impl_ReadDecimal.f
    rw [if_pos (by show (Lib.itoa m).toArray.size ≤ _; rw [List.size_toArray]; omega), pDec_yes (by exact hi)]
    show some (((dval 0 (Lib.itoa m) : Nat) : Int), true) = _
    rw [hi2]
  simp only [hd, hR, Option.bind_some]
  obtain ⟨t, ht, _⟩ := spec_DrawHex_ev l hl
  refine Ev.bind ht ?_
  by_cases c : (t.size : Int) > 300
  · simp only [c, if_true]
    exact num_j2 m (varB m.toNat) _ (by decide) s5
  · simp only [c, if_false]
    exact num_j2 m (varB m.toNat) t (by omega) s5
theorem FnNumbers : laws_FnNumbers.Pure := by
  intro l hm hl hx
  apply ev_rounds
  have hl' : l.length ≤ 140737488355328 := by omega
  simp only [laws_FnNumbers.f, laws_big.f, Option.bind_some]
  by_cases cb : (l.length : Int) > 1048576
  · simp only [cb, decide_true, if_true]
    exact Ev.now _
  simp only [cb, decide_false, Bool.false_eq_true, if_false]
  obtain ⟨n, hn⟩ := spec_DrawVarText_ev l hl'
  refine Ev.bind hn ?_
  by_cases c0 : n < 0
  · simp only [c0, if_true]
    apply ev_succ
    simp only [laws_FnNumbers.j0, if_true]
    exact num_j1 l hl' 12345 (by decide) (by decide)
  · simp only [c0, if_false]
    by_cases c1 : n > 1000000000
    · simp only [c1, decide_true]
      apply ev_succ
      simp only [laws_FnNumbers.j0, if_true]
      exact num_j1 l hl' 12345 (by decide) (by decide)
    · simp only [c1, decide_false]
      apply ev_succ
      simp only [laws_FnNumbers.j0, Bool.false_eq_true, if_false]
      exact num_j1 l hl' n (by omega) (by omega)

end Go.Proofs.YtogifkjkbfdocaaDoor.Pure
