/- PartsOf of the program (strings.Split) and of the reference (one walk) give the same words for every line; the list is new memory. -/
import Derived.Test.YtogifkjkbfdocaaDoorQFnExactPartsOfx3
import Derived.Test.YtogifkjkbfdocaaDoorBaseL
import Derived.Test.YtogifkjkbfdocaaDoorNumerals
namespace Go.Proofs.YtogifkjkbfdocaaDoor.Pure
open Go.RowKit Go.Proofs.YtogifkjkbfdocaaDoor.QFnExactPartsOf Go.Proofs.YtogifkjkbfdocaaDoorW.PrintWords Go.Proofs.YtogifkjkbfdocaaDoorW.PrintLast Go.Proofs.YtogifkjkbfdocaaDoorW.PrintMore Go.Proofs.YtogifkjkbfdocaaDoor.Base
open Go.Proofs.YtogifkjkbfdocaaDoor.Numerals
set_option linter.unusedVariables false
set_option linter.unusedSimpArgs false

theorem impl_within_ev (a b c : Int) : Ev (fun _ => impl_within.f a b c) (decide (b ≤ a ∧ a ≤ c)) := by
  apply ev_const
  unfold impl_within.f
  by_cases h : a ≥ b
  · rw [if_pos h]; simp [show b ≤ a from h]
  · rw [if_neg h]; simp [show ¬ b ≤ a from h]

def good (c : UInt8) : Bool := decide (32 ≤ c.toNat) && decide (c.toNat ≤ 126)
def fin (out : List ByteArray) : List ByteArray × Bool := if out.length > 10 then ([], false) else (out, true)
def mkB (l : List UInt8) : ByteArray := ⟨l.toArray⟩
theorem mkB_toList (s : ByteArray) : mkB s.data.toList = s := by unfold mkB; rw [Array.toArray_toList]
theorem extract_mkB (s : ByteArray) (a b : Nat) : s.extract a b = mkB ((s.data.toList.drop a).take (b - a)) := by
  rw [← Lib.extract_data, mkB_toList]
def pWords (s : ByteArray) : List ByteArray := (words [] s.data.toList).map mkB
def pParts (s : ByteArray) : List ByteArray × Bool := if (s.size : Int) > 600 then ([], false) else if s.data.toList.all good = true then fin (pWords s) else ([], false)
theorem fin_len (out : List ByteArray) : (fin out).1.length ≤ 10 := by
  unfold fin
  split
  · exact Nat.zero_le _
  · show out.length ≤ 10; omega
theorem pParts_len (s : ByteArray) : (pParts s).1.length ≤ 10 := by
  unfold pParts
  repeat' split
  all_goals first | exact fin_len _ | exact Nat.zero_le _
theorem split_words (s : ByteArray) : (Lib.splitB ⟨#[32]⟩ 0 (Lib.countB s ⟨#[32]⟩) s).filter (fun x => !x.data.toList.isEmpty) = pWords s := by
  have h := splitB_words s
  rw [List.filter_map] at h
  unfold pWords
  rw [← h, List.map_map]
  have e : (mkB ∘ fun x : ByteArray => x.data.toList) = id := by funext x; exact mkB_toList x
  rw [e, List.map_id]
  rfl
theorem bt_get2 (s : ByteArray) (i : Nat) (h : i < s.data.toList.length) : bt s (i : Int) = (((s.data.toList[i]).toNat : Nat) : Int) := by
  have h2 : i < s.size := by simpa using h
  unfold bt
  rw [Int.toNat_natCast, dif_pos h2]
  simp [ByteArray.getElem_eq_getElem_data]
theorem impl_PartsOf_l1 (ps : List ByteArray) (hp : ps.length ≤ 1000) : ∀ (m j : Nat) (acc : List ByteArray), ps.length - j = m → j ≤ ps.length → acc.length ≤ j →
    Ev (fun k => impl_PartsOf.l1 k acc ps (ps.length : Int) (j : Int)) (fin (acc ++ (ps.drop j).filter (fun x => !x.data.toList.isEmpty))) := by
  intro m
  induction m with
  | zero =>
    intro j acc h hj ha
    apply ev_succ
    have c : ¬ (j : Int) < (ps.length : Int) := by omega
    rw [List.drop_of_length_le (by omega), List.filter_nil, List.append_nil]
    simp only [impl_PartsOf.l1, c, if_false]
    unfold fin
    by_cases d : acc.length > 10
    · have d' : (acc.length : Int) > 10 := by omega
      simp only [d, d', if_true]
      exact Ev.now _
    · have d' : ¬ (acc.length : Int) > 10 := by omega
      simp only [d, d', if_false]
      exact Ev.now _
  | succ m ih =>
    intro j acc h hj ha
    apply ev_succ
    have hlt : j < ps.length := by omega
    have c : (j : Int) < (ps.length : Int) := by omega
    have c0 : (0 : Int) ≤ (j : Int) := by omega
    have ca : acc.length < 8796093022208 := by omega
    have e1 : wrap64 ((j : Int) + 1) = ((j + 1 : Nat) : Int) := w64 (by omega) (by omega)
    have hr : rdOf ByteArray.empty ps (j : Int) = ps[j] := by
      unfold rdOf
      rw [Int.toNat_natCast, List.getD_eq_getElem?_getD, List.getElem?_eq_getElem hlt]; rfl
    rw [List.drop_eq_getElem_cons hlt]
    simp only [impl_PartsOf.l1, c, c0, if_true, hr, e1]
    by_cases d : (ps[j]).toList = ([] : List UInt8)
    · have d' : (ps[j]).data.toList = [] := by rw [← Lib.toList_data]; exact d
      rw [List.filter_cons_of_neg (by rw [d']; decide)]
      simp only [d, if_true]
      exact ih (j + 1) acc (by omega) (by omega) (by omega)
    · have d' : ¬ (ps[j]).data.toList = [] := by rw [← Lib.toList_data]; exact d
      rw [List.filter_cons_of_pos (by cases h2 : (ps[j]).data.toList with | nil => exact absurd h2 d' | cons _ _ => rfl)]
      simp only [d, if_false, ca, if_true]
      have := ih (j + 1) (acc ++ [ps[j]]) (by omega) (by omega) (by rw [List.length_append]; simp; omega)
      rw [List.append_assoc] at this
      exact this
theorem impl_PartsOf_l0 (s : ByteArray) (hs : s.data.toList.length ≤ 600) : ∀ (m i : Nat), s.data.toList.length - i = m → i ≤ s.data.toList.length →
    Ev (fun k => impl_PartsOf.l0 k s [] (i : Int)) (if (s.data.toList.drop i).all good = true then fin (pWords s) else ([], false)) := by
  have hsz : (s.size : Int) = ((s.data.toList.length : Nat) : Int) := by simp
  have hsz2 : s.size = s.data.toList.length := by simp
  intro m
  induction m with
  | zero =>
    intro i h hi
    apply ev_succ
    have c : ¬ (i : Int) < (s.size : Int) := by rw [hsz]; omega
    have hlim : s.size < 4294967281 := by omega
    have hsp : strings_Split.f s (⟨#[32]⟩ : ByteArray) = some (Lib.splitB ⟨#[32]⟩ 0 (Lib.countB s ⟨#[32]⟩) s) := by
      unfold strings_Split.f
      rw [if_pos hlim, if_pos (by rw [Lib.toList_data])]
    have hlen := Lib.splitB_all ⟨#[32]⟩ (by decide) 0 (Lib.countB s ⟨#[32]⟩) s rfl
    have hcle := Lib.countB_le ⟨#[32]⟩ (by decide) s.size s (Nat.le_refl _)
    rw [List.drop_of_length_le (by omega)]
    simp only [impl_PartsOf.l0, c, if_false, hsp, Option.bind_some, List.all_nil, if_true]
    have := impl_PartsOf_l1 (Lib.splitB ⟨#[32]⟩ 0 (Lib.countB s ⟨#[32]⟩) s) (by omega) _ 0 [] rfl (Nat.zero_le _) (Nat.le_refl _)
    rw [List.drop_zero, List.nil_append, split_words] at this
    exact this
  | succ m ih =>
    intro i h hi
    apply ev_succ
    have hlt : i < s.data.toList.length := by omega
    have c : (i : Int) < (s.size : Int) := by rw [hsz]; omega
    have c0 : (0 : Int) ≤ (i : Int) := by omega
    have hb := bt_get2 s i hlt
    have hl256 : (s.data.toList[i]).toNat < 256 := (s.data.toList[i]).toNat_lt
    have e1 : wrap64 ((i : Int) + 1) = ((i + 1 : Nat) : Int) := w64 (by omega) (by omega)
    have e2 : wrap64 (bt s (i : Int)) = bt s (i : Int) := w64 (by omega) (by omega)
    rw [List.drop_eq_getElem_cons hlt, List.all_cons]
    simp only [impl_PartsOf.l0, c, c0, if_true, e1, e2]
    refine Ev.bind (impl_within_ev _ _ _) ?_
    by_cases g : good s.data.toList[i] = true
    · have g' : 32 ≤ bt s (i : Int) ∧ bt s (i : Int) ≤ 126 := by
        unfold good at g
        rw [Bool.and_eq_true, decide_eq_true_eq, decide_eq_true_eq] at g
        omega
      simp only [decide_eq_true g', if_true, g, Bool.true_and]
      exact ih (i + 1) (by omega) (by omega)
    · have g' : ¬ (32 ≤ bt s (i : Int) ∧ bt s (i : Int) ≤ 126) := by
        unfold good at g
        rw [Bool.and_eq_true, decide_eq_true_eq, decide_eq_true_eq] at g
        omega
      have g2 : good s.data.toList[i] = false := by simpa using g
      simp only [decide_eq_false g', Bool.false_eq_true, if_false, g2, Bool.false_and]
      exact Ev.now _
theorem impl_PartsOf_ev (s : ByteArray) : Ev (fun k => impl_PartsOf.f k s) (pParts s) := by
  have hsz : s.size = s.data.toList.length := by simp
  unfold impl_PartsOf.f pParts
  by_cases c : (s.size : Int) > 600
  · simp only [c, if_true]; exact Ev.now _
  · simp only [c, if_false]
    have := impl_PartsOf_l0 s (by omega) _ 0 rfl (Nat.zero_le _)
    rw [List.drop_zero] at this
    exact this

theorem spec_PartsOf_l0 (s : ByteArray) (hs : s.data.toList.length ≤ 600) : ∀ (m b i : Nat) (acc : List ByteArray), s.data.toList.length - i = m → b ≤ i → i ≤ s.data.toList.length → acc.length ≤ i →
    Ev (fun k => spec_PartsOf.l0 k s acc (b : Int) (i : Int)) (if (s.data.toList.drop i).all good = true then fin (acc ++ (words ((s.data.toList.drop b).take (i - b)) (s.data.toList.drop i)).map mkB) else ([], false)) := by
  have hsz : (s.size : Int) = ((s.data.toList.length : Nat) : Int) := by simp
  have fin_ev : ∀ (acc : List ByteArray) (b i : Nat), i = s.data.toList.length → Ev (fun k => spec_PartsOf.l0 k s acc (b : Int) ((i + 1 : Nat) : Int)) (fin acc) := by
    intro acc b i hi
    apply ev_succ
    have c : ¬ ((i + 1 : Nat) : Int) ≤ (s.size : Int) := by rw [hsz]; omega
    simp only [spec_PartsOf.l0, c, if_false]
    unfold fin
    by_cases d : acc.length > 10
    · have d' : (acc.length : Int) > 10 := by omega
      simp only [d, d', if_true]
      exact Ev.now _
    · have d' : ¬ (acc.length : Int) > 10 := by omega
      simp only [d, d', if_false]
      exact Ev.now _
  intro m
  induction m with
  | zero =>
    intro b i acc h hb hi ha
    have hie : i = s.data.toList.length := by omega
    apply ev_succ
    have c1 : (i : Int) ≤ (s.size : Int) := by rw [hsz]; omega
    have c2 : ¬ (i : Int) < (s.size : Int) := by rw [hsz]; omega
    have e1 : wrap64 ((i : Int) + 1) = ((i + 1 : Nat) : Int) := w64 (by omega) (by omega)
    have ca : acc.length < 8796093022208 := by omega
    have c0 : (0 : Int) ≤ (b : Int) := by omega
    have cb : (b : Int) ≤ (i : Int) := by omega
    rw [List.drop_of_length_le (l := s.data.toList) (i := i) (by omega)]
    simp only [spec_PartsOf.l0, c1, c2, if_true, if_false, List.all_nil]
    apply ev_succ
    simp only [spec_PartsOf.j1, Bool.false_eq_true, c2, if_false]
    apply ev_succ
    by_cases d : (b : Int) < (i : Int)
    · have hw : words ((s.data.toList.drop b).take (i - b)) [] = [(s.data.toList.drop b).take (i - b)] := by
        unfold words
        rw [if_neg (fun e => by have := congrArg List.length e; rw [List.length_take, List.length_drop, List.length_nil] at this; omega)]
      simp only [spec_PartsOf.j2, Bool.false_eq_true, if_false, d, c0, cb, c1, ca, if_true, e1]
      rw [hw, Int.toNat_natCast, Int.toNat_natCast, extract_mkB]
      exact fin_ev _ _ i hie
    · have hw : words ((s.data.toList.drop b).take (i - b)) [] = [] := by
        rw [show i - b = 0 by omega, List.take_zero]; rfl
      simp only [spec_PartsOf.j2, Bool.false_eq_true, if_false, d, e1]
      rw [hw, List.map_nil, List.append_nil]
      exact fin_ev _ _ i hie
  | succ m ih =>
    intro b i acc h hb hi ha
    have hlt : i < s.data.toList.length := by omega
    apply ev_succ
    have c1 : (i : Int) ≤ (s.size : Int) := by rw [hsz]; omega
    have c2 : (i : Int) < (s.size : Int) := by rw [hsz]; omega
    have ci : (0 : Int) ≤ (i : Int) := by omega
    have e1 : wrap64 ((i : Int) + 1) = ((i + 1 : Nat) : Int) := w64 (by omega) (by omega)
    have ca : acc.length < 8796093022208 := by omega
    have c0 : (0 : Int) ≤ (b : Int) := by omega
    have cb : (b : Int) ≤ (i : Int) := by omega
    have hb2 := bt_get2 s i hlt
    have hl256 : (s.data.toList[i]).toNat < 256 := (s.data.toList[i]).toNat_lt
    have q1 : s.data.toList.length - (i + 1) = m := by omega
    have q2 : i + 1 ≤ s.data.toList.length := by omega
    rw [List.drop_eq_getElem_cons hlt, List.all_cons]
    simp only [spec_PartsOf.l0, c1, c2, ci, if_true]
    by_cases g1 : bt s (i : Int) < 32
    · have g2 : good s.data.toList[i] = false := by
        unfold good
        rw [decide_eq_false (by omega)]; rfl
      simp only [g1, if_true, g2, Bool.false_and, Bool.false_eq_true, if_false]
      apply ev_succ
      simp only [spec_PartsOf.j1, if_true]
      exact Ev.now _
    simp only [g1, if_false]
    by_cases g3 : bt s (i : Int) > 126
    · have g2 : good s.data.toList[i] = false := by
        unfold good
        rw [Bool.and_eq_false_iff]; right; rw [decide_eq_false (by omega)]
      simp only [decide_eq_true g3, g2, Bool.false_and, Bool.false_eq_true, if_false]
      apply ev_succ
      simp only [spec_PartsOf.j1, if_true]
      exact Ev.now _
    have g2 : good s.data.toList[i] = true := by
      unfold good
      rw [Bool.and_eq_true, decide_eq_true_eq, decide_eq_true_eq]; omega
    simp only [decide_eq_false g3, g2, Bool.true_and]
    apply ev_succ
    simp only [spec_PartsOf.j1, Bool.false_eq_true, c2, ci, if_true, if_false]
    apply ev_succ
    by_cases d3 : s.data.toList[i] = 32
    · have d4 : (bt s (i : Int) != 32) = false := by
        rw [hb2, d3]; decide
      have hw0 : words ((s.data.toList.drop b).take (i - b)) (s.data.toList[i] :: s.data.toList.drop (i + 1)) = if (s.data.toList.drop b).take (i - b) = [] then words [] (s.data.toList.drop (i + 1)) else (s.data.toList.drop b).take (i - b) :: words [] (s.data.toList.drop (i + 1)) := by
        conv => lhs; unfold words
        rw [if_pos d3]
      rw [hw0]
      by_cases d : (b : Int) < (i : Int)
      · have hne : ¬ (s.data.toList.drop b).take (i - b) = [] := fun e => by have := congrArg List.length e; rw [List.length_take, List.length_drop, List.length_nil] at this; omega
        have q3 : (acc ++ [mkB ((s.data.toList.drop b).take (i - b))]).length ≤ i + 1 := by rw [List.length_append]; simp; omega
        simp only [spec_PartsOf.j2, d4, Bool.false_eq_true, if_false, d, c0, cb, c1, ca, if_true, e1]
        rw [if_neg hne, Int.toNat_natCast, Int.toNat_natCast, extract_mkB]
        have := ih (i + 1) (i + 1) (acc ++ [mkB ((s.data.toList.drop b).take (i - b))]) q1 (Nat.le_refl _) q2 q3
        rw [Nat.sub_self, List.take_zero, List.append_assoc] at this
        exact this
      · have he : (s.data.toList.drop b).take (i - b) = [] := by rw [show i - b = 0 by omega, List.take_zero]
        have q3 : acc.length ≤ i + 1 := by omega
        simp only [spec_PartsOf.j2, d4, Bool.false_eq_true, if_false, d, e1]
        rw [if_pos he]
        have := ih (i + 1) (i + 1) acc q1 (Nat.le_refl _) q2 q3
        rw [Nat.sub_self, List.take_zero] at this
        exact this
    · have d4 : (bt s (i : Int) != 32) = true := by
        rw [bne_iff_ne, hb2]
        intro e
        apply d3
        have : (s.data.toList[i]).toNat = 32 := by omega
        exact UInt8.toNat_inj.1 this
      have hw0 : words ((s.data.toList.drop b).take (i - b)) (s.data.toList[i] :: s.data.toList.drop (i + 1)) = words ((s.data.toList.drop b).take (i + 1 - b)) (s.data.toList.drop (i + 1)) := by
        conv => lhs; unfold words
        rw [if_neg d3, show i + 1 - b = (i - b) + 1 by omega, List.take_succ_eq_append_getElem (by rw [List.length_drop]; omega), List.getElem_drop]
        congr 3
        simp only [show b + (i - b) = i by omega]
      have q3 : acc.length ≤ i + 1 := by omega
      have q4 : b ≤ i + 1 := by omega
      simp only [spec_PartsOf.j2, d4, if_true, e1]
      rw [hw0]
      exact ih b (i + 1) acc q1 q4 q2 q3
theorem spec_PartsOf_ev (s : ByteArray) : Ev (fun k => spec_PartsOf.f k s) (pParts s) := by
  have hsz : s.size = s.data.toList.length := by simp
  unfold spec_PartsOf.f pParts
  simp only [Option.bind_some]
  by_cases c : (s.size : Int) > 600
  · simp only [c, if_true]; exact Ev.now _
  · simp only [c, if_false]
    have := spec_PartsOf_l0 s (by omega) _ 0 0 [] rfl (Nat.le_refl _) (Nat.zero_le _) (Nat.le_refl _)
    rw [List.drop_zero, Nat.sub_self, List.take_zero, List.nil_append] at this
    exact this

theorem laws_markText_l0 (n : Nat) : ∀ s : ByteArray, s.size + n ≤ 140737488355328 → Ev (fun k => laws_markText.l0 k (n : Int) s) (decF n s) := by
  induction n using Nat.strongRecOn with
  | ind n ih =>
    intro s hs
    apply ev_succ
    by_cases hn : n = 0
    · subst hn
      have c : ¬ ((0 : Nat) : Int) > 0 := by omega
      have c2 : 1 + s.size ≤ 9223372036854775807 := by omega
      simp only [laws_markText.l0, c, c2, if_true, if_false]
      rw [decF_zero]
      exact Ev.now _
    · have c : (n : Int) > 0 := by omega
      have e1 : wrap64 (48 + Int.tmod (n : Int) 10) % 256 = ((48 + n % 10 : Nat) : Int) := by
        rw [Int.tmod_eq_emod_of_nonneg (by omega), w64 (by omega) (by omega)]; omega
      have e2 : wrap64 (Int.tdiv (n : Int) 10) = ((n / 10 : Nat) : Int) := by
        rw [Int.tdiv_eq_ediv_of_nonneg (by omega), w64 (by omega) (by omega)]; omega
      have c2 : (strOfNums [((48 + n % 10 : Nat) : Int)]).size + s.size ≤ 9223372036854775807 := by rw [str_len]; simp; omega
      simp only [laws_markText.l0, c, if_true, e1, e2, Option.bind_some, c2]
      rw [decF_more hn]
      refine ih (n / 10) (by omega) _ ?_
      rw [size_app, str_len]; simp; omega
theorem laws_markText_ev (k : Int) (h : k ≤ 140737488355328) : Ev (fun n => laws_markText.f n k) (markT k) := by
  simp only [laws_markText.f]
  by_cases c : k ≤ 0
  · simp only [c, if_true]
    rw [markT, if_pos c]
    exact Ev.now _
  · simp only [c, if_false]
    rw [markT, if_neg c]
    obtain ⟨n, rfl⟩ := Int.eq_ofNat_of_zero_le (show 0 ≤ k by omega)
    have := laws_markText_l0 n ⟨#[]⟩ (by simp [ByteArray.size]; omega)
    simpa using this

theorem laws_eqStringS_ev (l : List ByteArray) (hl : l.length ≤ 140737488355328) : Ev (fun k => laws_eqStringS.f k l l) true := by
  simp only [laws_eqStringS.f, if_true]
  have key := loop_up (fun k (_ : Unit) i => laws_eqStringS.l0 k l l i) (l.length : Int) true (fun _ _ => True)
    (fun _ _ => by
      have c : ¬ (l.length : Int) < (l.length : Int) := by omega
      simp only [laws_eqStringS.l0, c, if_false]
      exact Ev.now _)
    (fun _ i h0 h1 _ ih => by
      have e2 : wrap64 (i + 1) = i + 1 := w64 (by omega) (by omega)
      simp only [laws_eqStringS.l0, h1, h0, if_true, e2]
      exact ih () trivial)
  exact key l.length 0 () (by omega) (by omega) trivial
def mkStr (a : Int) : Nat → List ByteArray
  | 0 => []
  | n + 1 => markT a :: mkStr (a + 1) n
theorem mkStr_len (a : Int) (n : Nat) : (mkStr a n).length = n := by
  induction n generalizing a with
  | zero => rfl
  | succ n ih => simp [mkStr, ih]
theorem mkStr_get (a : Int) (n i : Nat) (h : i < n) : (mkStr a n)[i]? = some (markT (a + i)) := by
  induction n generalizing a i with
  | zero => omega
  | succ n ih =>
    cases i with
    | zero => simp [mkStr]
    | succ i =>
      simp only [mkStr, List.getElem?_cons_succ]
      rw [ih _ _ (by omega), show a + 1 + (i : Int) = a + ((i + 1 : Nat) : Int) by omega]
theorem laws_markStringS_ev (l : List ByteArray) (a : Int) (ha : 0 ≤ a) (hb : a ≤ 70368744177664) (hl : l.length ≤ 1099511627776) : Ev (fun k => laws_markStringS.f k l a) (a + l.length, mkStr a l.length) := by
  simp only [laws_markStringS.f]
  have key := loop_up (fun k (s : List ByteArray × Int) i => laws_markStringS.l0 k s.1 s.2 i) (l.length : Int) (a + l.length, mkStr a l.length)
    (fun s i => s.1.length = l.length ∧ s.2 = a + i ∧ s.1.take i.toNat = (mkStr a l.length).take i.toNat)
    (fun s hs => by
      obtain ⟨b, x⟩ := s
      obtain ⟨hb, rfl, ht⟩ := hs
      simp only at hb ht ⊢
      have c : ¬ (l.length : Int) < (b.length : Int) := by omega
      simp only [laws_markStringS.l0, c, if_false]
      apply ev_some
      rw [List.take_of_length_le (by omega), List.take_of_length_le (by rw [mkStr_len]; omega)] at ht
      rw [ht])
    (fun s i h0 h1 hs ih => by
      obtain ⟨b, x⟩ := s
      obtain ⟨hb, rfl, ht⟩ := hs
      simp only at hb ht ⊢
      have c : i < (b.length : Int) := by omega
      have hfin := ih (b.set i.toNat (markT (a + i)), a + i + 1) ⟨by simp [hb], by simp only; omega, by
        simp only
        rw [show (i + 1).toNat = i.toNat + 1 by omega]
        refine take_set (mkStr a l.length) b i.toNat _ (by rw [mkStr_len]; exact hb) (by rw [mkStr_len]; omega) ht ?_
        rw [mkStr_get _ _ _ (by omega), show ((i.toNat : Nat) : Int) = i by omega]⟩
      have e1 : wrap64 (a + i + 1) = a + i + 1 := w64 (by omega) (by omega)
      have e2 : wrap64 (i + 1) = i + 1 := w64 (by omega) (by omega)
      simp only [laws_markStringS.l0, c, if_true, e1, e2]
      refine Ev.bind (laws_markText_ev _ (by omega)) ?_
      simp only [h0, if_true]
      exact hfin)
  exact key l.length 0 (l, a) (by omega) (by omega) ⟨rfl, by simp, by simp⟩
theorem laws_heldStringS_ev (a : Int) (n : Nat) (ha : 0 ≤ a) (hb : a ≤ 70368744177664) (hn : n ≤ 1099511627776) : Ev (fun k => laws_heldStringS.f k (mkStr a n) a) (a + n) := by
  simp only [laws_heldStringS.f]
  have key := loop_up (fun k (s : Int) i => laws_heldStringS.l0 k (mkStr a n) s i) (n : Int) (a + n) (fun s i => s = a + i)
    (fun s hs => by
      subst hs
      have c : ¬ (n : Int) < ((mkStr a n).length : Int) := by rw [mkStr_len]; omega
      simp only [laws_heldStringS.l0, c, if_false]
      exact Ev.now _)
    (fun s i h0 h1 hs ih => by
      subst hs
      have hfin := ih (a + i + 1) (by omega)
      have c : i < ((mkStr a n).length : Int) := by rw [mkStr_len]; omega
      have he : rdOf ByteArray.empty (mkStr a n) i = markT (a + i) := by
        have hg := mkStr_get a n i.toNat (by omega)
        rw [show ((i.toNat : Nat) : Int) = i by omega] at hg
        unfold rdOf
        rw [List.getD_eq_getElem?_getD, hg]
        rfl
      have e1 : wrap64 (a + i + 1) = a + i + 1 := w64 (by omega) (by omega)
      have e2 : wrap64 (i + 1) = i + 1 := w64 (by omega) (by omega)
      simp only [laws_heldStringS.l0, c, h0, if_true, e1, e2, he]
      refine Ev.bind (laws_markText_ev _ (by omega)) ?_
      simp only [if_true]
      exact hfin)
  exact key n 0 a (by omega) (by omega) (by omega)

theorem FnExactPartsOf : laws_FnExactPartsOf.Pure := by
  intro a0 h0
  apply ev_rounds
  simp only [laws_FnExactPartsOf.f]
  by_cases c : (a0.size : Int) > 1048576
  · simp only [c, if_true]; exact Ev.now _
  · simp only [c, if_false]
    have hl := pParts_len a0
    have hm := laws_markStringS_ev (pParts a0).1 1 (by decide) (by decide) (by omega)
    have hh := laws_heldStringS_ev 1 (pParts a0).1.length (by decide) (by decide) (by omega)
    have he := laws_eqStringS_ev (pParts a0).1 (by omega)
    have c1 : ¬ (1 : Int) + ((pParts a0).1.length : Int) < 0 := by omega
    refine Ev.bind (spec_PartsOf_ev a0) ?_
    refine Ev.bind (impl_PartsOf_ev a0) ?_
    refine Ev.bind he ?_
    simp only [if_true, bne_self_eq_false]
    apply ev_succ
    simp only [laws_FnExactPartsOf.j0, Bool.false_eq_true, if_false]
    refine Ev.bind hm ?_
    refine Ev.bind hh ?_
    simp only [c1, if_true, if_false]
    refine Ev.bind (impl_PartsOf_ev a0) ?_
    refine Ev.bind he ?_
    simp only [if_true, bne_self_eq_false]
    apply ev_succ
    simp only [laws_FnExactPartsOf.j1, Bool.false_eq_true, if_false]
    refine Ev.bind hh ?_
    simp only [c1, if_true, if_false]
    exact Ev.now _

end Go.Proofs.YtogifkjkbfdocaaDoor.Pure
