/- Of a drawn right disk what is kept is never lost, of what is not kept a beginning is left, and lost again nothing more is lost: for every code. -/
import Derived.Test.YtaainenplcokaaaQFnKeepsx8
import Derived.Test.YtaainenplcokaaaBaseL
import Derived.Test.YtaainenplcokaaaBaseS
import Derived.Test.YtaainenplcokaaaBaseD
import Derived.Test.YtaainenplcokaaaBaseB
namespace Go.Proofs.Ytaainenplcokaaa.Pure
open Go.RowKit Go.Proofs.Ytaainenplcokaaa.QFnKeeps Go.Proofs.YtaainenplcokaaaW.PrintWords Go.Proofs.YtaainenplcokaaaW.PrintLast Go.Proofs.YtaainenplcokaaaW.PrintMore Go.Proofs.Ytaainenplcokaaa.Base
set_option linter.unusedVariables false
set_option linter.unusedSimpArgs false

theorem spec_l01New_l0 (l : List Int) (hl : l.length ≤ 140737488355328) : ∀ (d : Nat) (i h : Int), 0 ≤ i → i + d = l.length → ∃ g : Int, Ev (fun k => spec_l01New.l0 k l h i) (l, 0, g) := by
  intro d
  induction d with
  | zero =>
    intro i h h0 hd
    refine ⟨h, ev_succ ?_⟩
    have c : ¬ i < (l.length : Int) := by omega
    simp only [spec_l01New.l0, c, if_false]
    exact Ev.now _
  | succ d ih =>
    intro i h h0 hd
    have c : i < (l.length : Int) := by omega
    by_cases c2 : i < 4000
    · obtain ⟨g, hg⟩ := ih (i + 1) (Go.bits .and .i64 (wrap64 ((wrap64 ((wrap64 (h * 131)) + (wrap64 (rd l i)))) + 7)) 1073741823) (by omega) (by omega)
      refine ⟨g, ev_succ ?_⟩
      have e : wrap64 (i + 1) = i + 1 := w64 (by omega) (by omega)
      simp only [spec_l01New.l0, c, c2, h0, if_true, e]
      exact hg
    · refine ⟨h, ev_succ ?_⟩
      simp only [spec_l01New.l0, c, c2, if_true, if_false]
      exact Ev.now _
theorem spec_l01New_ev (l : List Int) (hl : l.length ≤ 140737488355328) : ∃ g : Int, Ev (fun k => spec_l01New.f k l) (l, 0, g) := by
  obtain ⟨g, hg⟩ := spec_l01New_l0 l hl l.length 0 (wrap64 (37401 + (l.length : Int))) (by omega) (by omega)
  exact ⟨g, by simp only [spec_l01New.f]; exact hg⟩
theorem spec_l01Byte_ev (s : List Int) (i h : Int) (hi : 0 ≤ i ∧ i ≤ s.length) (hs : s.length ≤ 140737488355328) : ∃ x j g, spec_l01Byte.f s i h = some (x, j, g) ∧ (0 ≤ x ∧ x ≤ 255) ∧ 0 ≤ j ∧ j ≤ (s.length : Int) := by
  by_cases c : i < (s.length : Int)
  · have e : wrap64 (i + 1) = i + 1 := w64 (by omega) (by omega)
    refine ⟨_, i + 1, _, by simp only [spec_l01Byte.f, c, hi.1, if_true, e]; rfl, and255 _, by omega, by omega⟩
  · refine ⟨_, i, _, by simp only [spec_l01Byte.f, c, if_false]; rfl, and255 _, hi⟩
theorem spec_l01Below_ev (s : List Int) (i h n : Int) (hi : 0 ≤ i ∧ i ≤ s.length) (hs : s.length ≤ 140737488355328) : ∃ x j g, spec_l01Below.f s i h n = some (x, j, g) ∧ (n ≤ 0 → x = 0) ∧ (0 < n → 0 ≤ x ∧ x < n) ∧ 0 ≤ j ∧ j ≤ (s.length : Int) := by
  by_cases c1 : n ≤ 0
  · exact ⟨0, i, h, by simp only [spec_l01Below.f, c1, if_true], fun _ => rfl, fun h => by omega, hi⟩
  have c3 : ¬ n = 0 := by omega
  by_cases c2 : n ≤ 256
  · obtain ⟨x, j, g, e, hx, hj⟩ := spec_l01Byte_ev s i h hi hs
    refine ⟨Int.tmod x n, j, g, by simp only [spec_l01Below.f, c1, c2, c3, if_true, if_false, e, Option.bind_some], fun h => absurd h c1, fun hn => tmod_in hx.1 hn, hj⟩
  · obtain ⟨x1, j1, g1, e1, hx1, hj1⟩ := spec_l01Byte_ev s i h hi hs
    obtain ⟨x2, j2, g2, e2, hx2, hj2⟩ := spec_l01Byte_ev s j1 g1 hj1 hs
    obtain ⟨x3, j3, g3, e3, hx3, hj3⟩ := spec_l01Byte_ev s j2 g2 hj2 hs
    obtain ⟨x4, j4, g4, e4, hx4, hj4⟩ := spec_l01Byte_ev s j3 g3 hj3 hs
    have f1 : wrap64 (x1 * 16777216) = x1 * 16777216 := w64 (by omega) (by omega)
    have f2 : wrap64 (x2 * 65536) = x2 * 65536 := w64 (by omega) (by omega)
    have f3 : wrap64 (x3 * 256) = x3 * 256 := w64 (by omega) (by omega)
    have f4 : wrap64 (x1 * 16777216 + x2 * 65536) = x1 * 16777216 + x2 * 65536 := w64 (by omega) (by omega)
    have f5 : wrap64 (x1 * 16777216 + x2 * 65536 + x3 * 256) = x1 * 16777216 + x2 * 65536 + x3 * 256 := w64 (by omega) (by omega)
    have f6 : wrap64 (x1 * 16777216 + x2 * 65536 + x3 * 256 + x4) = x1 * 16777216 + x2 * 65536 + x3 * 256 + x4 := w64 (by omega) (by omega)
    refine ⟨Int.tmod (x1 * 16777216 + x2 * 65536 + x3 * 256 + x4) n, j4, g4, by simp only [spec_l01Below.f, c1, c2, c3, if_false, e1, e2, e3, e4, Option.bind_some, f1, f2, f3, f4, f5, f6], fun h => absurd h c1, fun hn => tmod_in (by omega) hn, hj4⟩

theorem spec_DrawPlaces_l0 (s : List Int) (hs : s.length ≤ 140737488355328) : ∀ (d : Nat) (i : Int) (acc : List Int) (j g : Int), 0 ≤ i → i + d = 12 → (acc.length : Int) = i → (∀ x ∈ acc, 0 ≤ x ∧ x < 10000) → 0 ≤ j ∧ j ≤ (s.length : Int) →
    ∃ p : List Int, Ev (fun k => spec_DrawPlaces.l0 k acc i s j g) p ∧ p.length = 12 ∧ ∀ x ∈ p, 0 ≤ x ∧ x < 10000 := by
  intro d
  induction d with
  | zero =>
    intro i acc j g h0 hd hl ha hj
    refine ⟨acc, ev_succ ?_, by omega, ha⟩
    have c : ¬ i < 12 := by omega
    simp only [spec_DrawPlaces.l0, c, if_false]
    exact Ev.now _
  | succ d ih =>
    intro i acc j g h0 hd hl ha hj
    have c : i < 12 := by omega
    obtain ⟨x, j2, g2, e, _, hx, hj2⟩ := spec_l01Below_ev s j g 10000 hj hs
    have hx' := hx (by decide)
    obtain ⟨p, hp, hp2⟩ := ih (i + 1) (acc ++ [x]) j2 g2 (by omega) (by omega) (by rw [List.length_append]; simp; omega) (fun y hy => by
      rcases List.mem_append.1 hy with h | h
      · exact ha y h
      · rw [List.mem_singleton] at h; subst h; exact hx') hj2
    refine ⟨p, ev_succ ?_, hp2⟩
    have e1 : wrap64 (i + 1) = i + 1 := w64 (by omega) (by omega)
    have c2 : acc.length < 17592186044416 := by omega
    simp only [spec_DrawPlaces.l0, c, if_true, e, Option.bind_some, c2, e1]
    exact hp
theorem spec_DrawPlaces_ev (l : List Int) (hl : l.length ≤ 140737488355328) : ∃ p : List Int, Ev (fun k => spec_DrawPlaces.f k l) p ∧ p.length = 12 ∧ ∀ x ∈ p, 0 ≤ x ∧ x < 10000 := by
  obtain ⟨g, hg⟩ := spec_l01New_ev l hl
  obtain ⟨x, j, g2, e, _, hj⟩ := spec_l01Byte_ev l 0 g (by omega) hl
  obtain ⟨p, hp, hp2⟩ := spec_DrawPlaces_l0 l hl 12 0 [] j g2 (by omega) (by omega) rfl (fun y hy => by simp at hy) hj
  refine ⟨p, ?_, hp2⟩
  simp only [spec_DrawPlaces.f]
  refine Ev.bind hg ?_
  simp only [e, Option.bind_some]
  exact hp

theorem spec_l01Text_l0 (s : List Int) (hs : s.length ≤ 140737488355328) (n : Int) (hn : n ≤ 5000) : ∀ (d : Nat) (i : Int) (acc : List Int) (j g : Int), 0 ≤ i → i + d = n → (acc.length : Int) = i → 0 ≤ j ∧ j ≤ (s.length : Int) →
    ∃ t j2 g2, Ev (fun k => spec_l01Text.l0 k n acc i s j g) (t, j2, g2) ∧ (t.size : Int) = n ∧ 0 ≤ j2 ∧ j2 ≤ (s.length : Int) := by
  intro d
  induction d with
  | zero =>
    intro i acc j g h0 hd hl hj
    refine ⟨strOfNums acc, j, g, ev_succ ?_, by rw [str_len]; omega, hj⟩
    have c : ¬ i < n := by omega
    simp only [spec_l01Text.l0, c, if_false]
    exact Ev.now _
  | succ d ih =>
    intro i acc j g h0 hd hl hj
    have c : i < n := by omega
    obtain ⟨x, j2, g2, e, _, hj2⟩ := spec_l01Byte_ev s j g hj hs
    obtain ⟨t, j3, g3, hp, hp2⟩ := ih (i + 1) (acc ++ [x % 256]) j2 g2 (by omega) (by omega) (by rw [List.length_append]; simp; omega) hj2
    refine ⟨t, j3, g3, ev_succ ?_, hp2⟩
    have e1 : wrap64 (i + 1) = i + 1 := w64 (by omega) (by omega)
    have c2 : acc.length < 140737488355328 := by omega
    simp only [spec_l01Text.l0, c, if_true, e, Option.bind_some, c2, e1]
    exact hp
theorem spec_l01Text_ev (s : List Int) (i h n : Int) (hi : 0 ≤ i ∧ i ≤ s.length) (hs : s.length ≤ 140737488355328) (hn : 0 ≤ n) : ∃ t j g, Ev (fun k => spec_l01Text.f k s i h n) (t, j, g) ∧ (t.size : Int) ≤ n ∧ (t.size : Int) ≤ 5000 ∧ 0 ≤ j ∧ j ≤ (s.length : Int) := by
  by_cases c : n > 5000
  · obtain ⟨t, j, g, hp, h1, h2⟩ := spec_l01Text_l0 s hs 5000 (by omega) 5000 0 [] i h (by omega) (by omega) rfl hi
    refine ⟨t, j, g, ?_, by omega, by omega, h2⟩
    simp only [spec_l01Text.f, c, if_true]
    apply ev_succ
    simp only [spec_l01Text.j0]
    exact hp
  · obtain ⟨t, j, g, hp, h1, h2⟩ := spec_l01Text_l0 s hs n (by omega) n.toNat 0 [] i h (by omega) (by omega) rfl hi
    refine ⟨t, j, g, ?_, by omega, by omega, h2⟩
    simp only [spec_l01Text.f, c, if_false]
    apply ev_succ
    simp only [spec_l01Text.j0]
    exact hp

def pFile (f : S49) : Bool := decide (1 ≤ f.f0.size ∧ f.f0.size ≤ 8) && decide (f.f1.size ≤ 20000) && decide (0 ≤ f.f2 ∧ f.f2 ≤ f.f1.size)
def pDiskL : Option ByteArray → List (S49) → Bool
  | _, [] => true
  | none, f :: l => pFile f && pDiskL (some f.f0) l
  | some q, f :: l => pFile f && Op.bytesLess q.toList f.f0.toList && pDiskL (some f.f0) l
def prevN (l : List (S49)) (i : Int) : Option ByteArray := if i = 0 then none else some (rd_T49 l (i - 1)).f0
def pDiskOk (l : List (S49)) : Bool := decide (l.length ≤ 30) && pDiskL none l
theorem drop_file (l : List (S49)) (i : Int) (h0 : 0 ≤ i) (h1 : i < l.length) : l.drop i.toNat = rd_T49 l i :: l.drop (i + 1).toNat := drop_get l i h0 h1 z49
theorem prevN_next (l : List (S49)) (i : Int) (h : 0 ≤ i) : prevN l (i + 1) = some (rd_T49 l i).f0 := by
  rw [prevN, if_neg (by omega), show i + 1 - 1 = i by omega]
theorem pDiskL_bad {o : Option ByteArray} {f : S49} {l : List (S49)} (h : pFile f = false) : pDiskL o (f :: l) = false := by
  cases o <;> simp [pDiskL, h]

def pKeptL (l : List (S49)) : Bool := l.all fun f => decide (f.f2 = f.f1.size)
def pAllKept (l : List (S49)) : Bool := pKeptL l && pDiskOk l
theorem pKeptL_cons (f : S49) (l : List (S49)) : pKeptL (f :: l) = (decide (f.f2 = f.f1.size) && pKeptL l) := by simp [pKeptL]
theorem pDiskL_files : ∀ (l : List (S49)) (o : Option ByteArray), pDiskL o l = true → ∀ f ∈ l, pFile f = true := by
  intro l
  induction l with
  | nil => intro o _ f hf; simp at hf
  | cons g l ih =>
    intro o h f hf
    have hg : pFile g = true ∧ pDiskL (some g.f0) l = true := by
      cases o <;> simp only [pDiskL, Bool.and_eq_true] at h
      · exact h
      · exact ⟨h.1.1, h.2⟩
    rcases List.mem_cons.1 hf with rfl | hf
    · exact hg.1
    · exact ih _ hg.2 f hf
theorem pDiskOk_files {l : List (S49)} (h : pDiskOk l = true) : l.length ≤ 30 ∧ ∀ f ∈ l, (1 ≤ f.f0.size ∧ f.f0.size ≤ 8) ∧ f.f1.size ≤ 20000 ∧ 0 ≤ f.f2 ∧ f.f2 ≤ f.f1.size := by
  simp only [pDiskOk, Bool.and_eq_true, decide_eq_true_eq] at h
  refine ⟨h.1, fun f hf => ?_⟩
  have := pDiskL_files l none h.2 f hf
  simp only [pFile, Bool.and_eq_true, decide_eq_true_eq] at this
  exact ⟨this.1.1, this.1.2, this.2⟩

def ltF (a b : S49) : Bool := Op.bytesLess a.f0.toList b.f0.toList
def pPut (l : List (S49)) (f : S49) : List (S49) := l.filter (fun x => ltF x f) ++ (f :: l.filter (fun x => ltF f x))
theorem pPut_len (l : List (S49)) (f : S49) : (pPut l f).length ≤ l.length + 1 := by
  have := filter_two (fun x => ltF x f) (fun x => ltF f x) (fun x h => bl_asymm h) l
  simp only [pPut, List.length_append, List.length_cons]
  omega
theorem pDiskL_iff (l : List (S49)) : ∀ o : Option ByteArray, pDiskL o l = true ↔ ((∀ f ∈ l, pFile f = true) ∧ l.Pairwise (fun a b => ltF a b = true) ∧ ∀ q, o = some q → ∀ f ∈ l, Op.bytesLess q.toList f.f0.toList = true) := by
  induction l with
  | nil =>
    intro o
    cases o <;> simp [pDiskL]
  | cons x l ih =>
    intro o
    have hx := ih (some x.f0)
    have e1 : pDiskL o (x :: l) = true ↔ (pFile x = true ∧ (∀ q, o = some q → Op.bytesLess q.toList x.f0.toList = true) ∧ pDiskL (some x.f0) l = true) := by
      cases o with
      | none => simp [pDiskL]
      | some q => simp [pDiskL, and_assoc]
    rw [e1, hx]
    constructor
    · rintro ⟨h1, h2, h3, h4, h5⟩
      refine ⟨fun f hf => ?_, List.pairwise_cons.2 ⟨fun f hf => h5 _ rfl f hf, h4⟩, fun q hq f hf => ?_⟩
      · rcases List.mem_cons.1 hf with rfl | hf
        · exact h1
        · exact h3 f hf
      · rcases List.mem_cons.1 hf with rfl | hf
        · exact h2 q hq
        · exact bl_trans _ _ _ (h2 q hq) (h5 _ rfl f hf)
    · rintro ⟨h1, h2, h3⟩
      rw [List.pairwise_cons] at h2
      exact ⟨h1 x List.mem_cons_self, fun q hq => h3 q hq x List.mem_cons_self, fun f hf => h1 f (List.mem_cons_of_mem _ hf), h2.2, fun q hq f hf => by cases hq; exact h2.1 f hf⟩
theorem pPut_ok {l : List (S49)} {f : S49} (h : pDiskL none l = true) (hf : pFile f = true) : pDiskL none (pPut l f) = true := by
  rw [pDiskL_iff] at h ⊢
  refine ⟨fun x hx => ?_, ?_, fun q hq => by cases hq⟩
  · simp only [pPut, List.mem_append, List.mem_cons, List.mem_filter] at hx
    rcases hx with hx | rfl | hx
    · exact h.1 x hx.1
    · exact hf
    · exact h.1 x hx.1
  · unfold pPut
    rw [List.pairwise_append]
    refine ⟨h.2.1.filter _, List.pairwise_cons.2 ⟨fun x hx => (List.mem_filter.1 hx).2, h.2.1.filter _⟩, fun a ha b hb => ?_⟩
    have ha := (List.mem_filter.1 ha).2
    rcases List.mem_cons.1 hb with rfl | hb
    · exact ha
    · exact bl_trans _ _ _ ha (List.mem_filter.1 hb).2

theorem spec_l03Put_l1 (l : List (S49)) (f : S49) (hl : l.length ≤ 1048576) : ∀ (d : Nat) (i : Int) (acc R : List (S49)), 0 ≤ i → i + d = l.length → (acc.length : Int) ≤ i + 1048577 → acc ++ (l.drop i.toNat).filter (fun x => ltF f x) = R →
    Ev (fun k => spec_l03Put.l1 k i l f.f0 f.f1 f.f2 acc) R := by
  intro d
  induction d with
  | zero =>
    intro i acc R h0 h ha hR
    apply ev_succ
    have c : ¬ i < (l.length : Int) := by omega
    simp only [spec_l03Put.l1, c, if_false]
    rw [List.drop_of_length_le (by omega), List.filter_nil, List.append_nil] at hR
    exact ev_some hR
  | succ d ih =>
    intro i acc R h0 h ha hR
    have c : i < (l.length : Int) := by omega
    have ei : wrap64 (i + 1) = i + 1 := w64 (by omega) (by omega)
    have hc : acc.length < 3518437208883 := by omega
    rw [drop_file l i h0 c, List.filter_cons] at hR
    apply ev_succ
    simp only [spec_l03Put.l1, c, h0, if_true, ei]
    by_cases hq : Op.bytesLess f.f0.toList (rd_T49 l i).f0.toList = true
    · rw [if_pos (show ltF f (rd_T49 l i) = true from hq)] at hR
      simp only [hq, if_true, hc]
      exact ih (i + 1) (acc ++ [rd_T49 l i]) R (by omega) (by omega) (by rw [List.length_append, List.length_singleton]; omega) (by rw [List.append_assoc]; exact hR)
    · rw [if_neg (show ¬ ltF f (rd_T49 l i) = true from hq)] at hR
      simp only [hq, if_false]
      exact ih (i + 1) acc R (by omega) (by omega) (by omega) hR
theorem spec_l03Put_l0 (l : List (S49)) (f : S49) (hl : l.length ≤ 1048576) : ∀ (d : Nat) (i : Int) (acc R : List (S49)), 0 ≤ i → i + d = l.length → (acc.length : Int) ≤ i → (acc ++ (l.drop i.toNat).filter (fun x => ltF x f)) ++ (f :: l.filter (fun x => ltF f x)) = R →
    Ev (fun k => spec_l03Put.l0 k i l f.f0 f.f1 f.f2 acc) R := by
  intro d
  induction d with
  | zero =>
    intro i acc R h0 h ha hR
    apply ev_succ
    have c : ¬ i < (l.length : Int) := by omega
    have hc : acc.length < 3518437208883 := by omega
    simp only [spec_l03Put.l0, c, if_false, hc, if_true]
    rw [List.drop_of_length_le (by omega), List.filter_nil, List.append_nil] at hR
    exact spec_l03Put_l1 l f hl l.length 0 (acc ++ [f]) R (by omega) (by omega) (by rw [List.length_append, List.length_singleton]; omega) (by rw [List.append_assoc]; exact hR)
  | succ d ih =>
    intro i acc R h0 h ha hR
    have c : i < (l.length : Int) := by omega
    have ei : wrap64 (i + 1) = i + 1 := w64 (by omega) (by omega)
    have hc : acc.length < 3518437208883 := by omega
    rw [drop_file l i h0 c, List.filter_cons] at hR
    apply ev_succ
    simp only [spec_l03Put.l0, c, h0, if_true, ei]
    by_cases hq : Op.bytesLess (rd_T49 l i).f0.toList f.f0.toList = true
    · rw [if_pos (show ltF (rd_T49 l i) f = true from hq)] at hR
      simp only [hq, if_true, hc]
      exact ih (i + 1) (acc ++ [rd_T49 l i]) R (by omega) (by omega) (by rw [List.length_append, List.length_singleton]; omega) (by rw [List.append_assoc acc]; exact hR)
    · rw [if_neg (show ¬ ltF (rd_T49 l i) f = true from hq)] at hR
      simp only [hq, if_false]
      exact ih (i + 1) acc R (by omega) (by omega) (by omega) hR
theorem spec_l03Put_ev (l : List (S49)) (f : S49) (hl : l.length ≤ 1048576) : Ev (fun k => spec_l03Put.f k l f.f0 f.f1 f.f2) (pPut l f) := by
  simp only [spec_l03Put.f]
  exact spec_l03Put_l0 l f hl l.length 0 [] _ (by omega) (by omega) (by simp) (by simp [pPut])

theorem named_size (x : Int) (h : 0 ≤ x ∧ x < 8) : 1 ≤ (rdOf ByteArray.empty [(⟨#[97]⟩ : ByteArray), (⟨#[98]⟩ : ByteArray), (⟨#[99]⟩ : ByteArray), (⟨#[106, 48]⟩ : ByteArray), (⟨#[106, 49]⟩ : ByteArray), (⟨#[106, 43]⟩ : ByteArray), (⟨#[115, 48]⟩ : ByteArray), (⟨#[115, 43]⟩ : ByteArray)] x).size ∧
    (rdOf ByteArray.empty [(⟨#[97]⟩ : ByteArray), (⟨#[98]⟩ : ByteArray), (⟨#[99]⟩ : ByteArray), (⟨#[106, 48]⟩ : ByteArray), (⟨#[106, 49]⟩ : ByteArray), (⟨#[106, 43]⟩ : ByteArray), (⟨#[115, 48]⟩ : ByteArray), (⟨#[115, 43]⟩ : ByteArray)] x).size ≤ 8 := by
  have h8 : x = 0 ∨ x = 1 ∨ x = 2 ∨ x = 3 ∨ x = 4 ∨ x = 5 ∨ x = 6 ∨ x = 7 := by omega
  rcases h8 with rfl | rfl | rfl | rfl | rfl | rfl | rfl | rfl <;> decide
theorem spec_l03Named_ev (s : List Int) (i h : Int) (hi : 0 ≤ i ∧ i ≤ s.length) (hs : s.length ≤ 140737488355328) : ∃ t j g, spec_l03Named.f s i h = some (t, j, g) ∧ (1 ≤ t.size ∧ t.size ≤ 8) ∧ 0 ≤ j ∧ j ≤ (s.length : Int) := by
  obtain ⟨x, j, g, e, _, hx, hj⟩ := spec_l01Below_ev s i h 8 hi hs
  have hx := hx (by decide)
  refine ⟨_, j, g, ?_, named_size x hx, hj⟩
  have e8 : (([(⟨#[97]⟩ : ByteArray), (⟨#[98]⟩ : ByteArray), (⟨#[99]⟩ : ByteArray), (⟨#[106, 48]⟩ : ByteArray), (⟨#[106, 49]⟩ : ByteArray), (⟨#[106, 43]⟩ : ByteArray), (⟨#[115, 48]⟩ : ByteArray), (⟨#[115, 43]⟩ : ByteArray)] : List ByteArray).length : Int) = 8 := rfl
  simp only [spec_l03Named.f, spec_l01Pick.f, e8, e, Option.bind_some, hx.1, hx.2, if_true]
theorem spec_DrawRightDisk_l0 (s : List Int) (hs : s.length ≤ 140737488355328) : ∀ (d : Nat) (i : Int) (acc : List (S49)) (j g : Int), 0 ≤ i → i + d = 6 → (acc.length : Int) ≤ i → pDiskL none acc = true → 0 ≤ j ∧ j ≤ (s.length : Int) →
    ∃ r : List (S49), Ev (fun k => spec_DrawRightDisk.l0 k i s j g acc) r ∧ r.length ≤ 6 ∧ pDiskL none r = true := by
  intro d
  induction d with
  | zero =>
    intro i acc j g h0 hd hl ha hj
    obtain ⟨x, j1, g1, e, _, hx, hj1⟩ := spec_l01Below_ev s j g 6 hj hs
    have hx := hx (by decide)
    refine ⟨acc, ev_succ ?_, by omega, ha⟩
    have c : ¬ i < x := by omega
    simp only [spec_DrawRightDisk.l0, e, Option.bind_some, c, if_false]
    exact Ev.now _
  | succ d ih =>
    intro i acc j g h0 hd hl ha hj
    obtain ⟨x, j1, g1, e, _, hx, hj1⟩ := spec_l01Below_ev s j g 6 hj hs
    have hx := hx (by decide)
    by_cases c : i < x
    · obtain ⟨y, j2, g2, e2, _, hy, hj2⟩ := spec_l01Below_ev s j1 g1 30 hj1 hs
      have hy := hy (by decide)
      obtain ⟨t, j3, g3, ht, hts, _, hj3⟩ := spec_l01Text_ev s j2 g2 y hj2 hs hy.1
      obtain ⟨nm, j4, g4, e4, hn, hj4⟩ := spec_l03Named_ev s j3 g3 hj3 hs
      obtain ⟨kp, j5, g5, e6, _, hk, hj5⟩ := spec_l01Below_ev s j4 g4 ((t.size : Int) + 1) hj4 hs
      have hk := hk (by omega)
      have hp : pFile (⟨nm, t, kp⟩ : S49) = true := by
        simp only [pFile, Bool.and_eq_true, decide_eq_true_eq]
        exact ⟨⟨hn, by omega⟩, by omega⟩
      have hlen := pPut_len acc (⟨nm, t, kp⟩ : S49)
      obtain ⟨r, hr, hr2⟩ := ih (i + 1) (pPut acc ⟨nm, t, kp⟩) j5 g5 (by omega) (by omega) (by omega) (pPut_ok ha hp) hj5
      refine ⟨r, ev_succ ?_, hr2⟩
      have hpl : acc.length ≤ 1048576 := by omega
      have e5 : wrap64 ((t.size : Int) + 1) = t.size + 1 := w64 (by omega) (by omega)
      have ei : wrap64 (i + 1) = i + 1 := w64 (by omega) (by omega)
      simp only [spec_DrawRightDisk.l0, e, Option.bind_some, c, if_true, e2]
      refine Ev.bind ht ?_
      simp only [e4, Option.bind_some, e5, e6, ei]
      refine Ev.bind (spec_l03Put_ev acc (⟨nm, t, kp⟩ : S49) hpl) ?_
      exact hr
    · refine ⟨acc, ev_succ ?_, by omega, ha⟩
      simp only [spec_DrawRightDisk.l0, e, Option.bind_some, c, if_false]
      exact Ev.now _
theorem spec_DrawRightDisk_ev (l : List Int) (hl : l.length ≤ 140737488355328) : ∃ r : List (S49), Ev (fun k => spec_DrawRightDisk.f k l) r ∧ r.length ≤ 6 ∧ pDiskL none r = true := by
  obtain ⟨g, hg⟩ := spec_l01New_ev l hl
  obtain ⟨r, hr, hr2⟩ := spec_DrawRightDisk_l0 l hl 6 0 [] 0 g (by omega) (by omega) (by simp) rfl (by omega)
  refine ⟨r, ?_, hr2⟩
  simp only [spec_DrawRightDisk.f]
  refine Ev.bind hg ?_
  exact hr

theorem impl_within_ev (a b c : Int) : Ev (fun _ => impl_within.f a b c) (decide (b ≤ a ∧ a ≤ c)) := by
  apply ev_const
  unfold impl_within.f
  by_cases h : a ≥ b
  · rw [if_pos h]; simp [show b ≤ a from h]
  · rw [if_neg h]; simp [show ¬ b ≤ a from h]

theorem impl_DiskOk_l0 (l : List (S49)) (hl : l.length ≤ 1048576) : ∀ (d : Nat) (i : Int), 0 ≤ i → i + d = l.length → Ev (fun k => impl_DiskOk.l0 k l (l.length : Int) i l) (pDiskL (prevN l i) (l.drop i.toNat) && decide (l.length ≤ 30)) := by
  intro d
  induction d with
  | zero =>
    intro i h0 h
    apply ev_succ
    have c : ¬ i < (l.length : Int) := by omega
    simp only [impl_DiskOk.l0, c, if_false]
    rw [List.drop_of_length_le (by omega)]
    apply ev_some
    have e : decide ((l.length : Int) ≤ 30) = decide (l.length ≤ 30) := by rw [decide_eq_decide]; omega
    cases prevN l i <;> simp only [pDiskL, Bool.true_and, e]
  | succ d ih =>
    intro i h0 h
    apply ev_succ
    have c : i < (l.length : Int) := by omega
    have e1 : wrap64 (i + 1) = i + 1 := w64 (by omega) (by omega)
    have e2 : wrap64 (i - 1) = i - 1 := w64 (by omega) (by omega)
    have hh := ih (i + 1) (by omega) (by omega)
    rw [prevN_next l i h0] at hh
    rw [drop_file l i h0 c]
    have k3 : i > 0 → 0 ≤ i - 1 ∧ i - 1 < (l.length : Int) := fun _ => by omega
    have hp0 : ¬ i > 0 → prevN l i = none := fun hi => by rw [prevN, if_pos (by omega)]
    have hp1 : i > 0 → prevN l i = some (rd_T49 l (i - 1)).f0 := fun hi => by rw [prevN, if_neg (by omega)]
    simp only [impl_DiskOk.l0, c, h0, if_true, e1, e2]
    generalize rd_T49 l i = f at hh ⊢
    refine Ev.bind (impl_within_ev _ _ _) ?_
    by_cases a1 : 1 ≤ f.f0.size ∧ f.f0.size ≤ 8
    · have a1' : 1 ≤ (f.f0.size : Int) ∧ (f.f0.size : Int) ≤ 8 := by omega
      by_cases a2 : (f.f1.size : Int) > 20000
      · simp only [a1', and_self, decide_true, if_true, a2]
        apply ev_some
        rw [pDiskL_bad (by simp [pFile]; omega), Bool.false_and]
      · simp only [a1', and_self, decide_true, if_true, a2, if_false]
        refine Ev.bind (impl_within_ev _ _ _) ?_
        by_cases a3 : 0 ≤ f.f2 ∧ f.f2 ≤ (f.f1.size : Int)
        · have hf : pFile f = true := by simp [pFile, a1, a3]; omega
          by_cases hi : i > 0
          · simp only [a3, and_self, decide_true, if_true, hi, (k3 hi).1, (k3 hi).2]
            rw [hp1 hi]
            by_cases hb : Op.bytesLess (rd_T49 l (i - 1)).f0.toList f.f0.toList = true
            · simp only [hb, if_true]
              simpa [pDiskL, hf, hb] using hh
            · simp only [hb, if_false]
              apply ev_some
              simp [pDiskL, hb]
          · simp only [a3, and_self, decide_true, if_true, hi, if_false]
            rw [hp0 hi]
            simpa [pDiskL, hf] using hh
        · simp only [a3, decide_false, Bool.false_eq_true, if_false]
          apply ev_some
          rw [pDiskL_bad (by simp only [pFile, a3, decide_false, Bool.and_false]), Bool.false_and]
    · have a1' : ¬ (1 ≤ (f.f0.size : Int) ∧ (f.f0.size : Int) ≤ 8) := by omega
      simp only [a1', decide_false, Bool.false_eq_true, if_false]
      apply ev_some
      rw [pDiskL_bad (by simp only [pFile, a1, decide_false, Bool.false_and]), Bool.false_and]
theorem impl_DiskOk_ev (l : List (S49)) (hl : l.length ≤ 1048576) : Ev (fun k => impl_DiskOk.f k l) (pDiskOk l) := by
  simp only [impl_DiskOk.f]
  rw [pDiskOk, Bool.and_comm]
  have := impl_DiskOk_l0 l hl l.length 0 (by omega) (by omega)
  simpa [prevN] using this

def loseN (f : S49) (left : List Int) (i : Int) : Int := if i < left.length then mx f.f2 (mn (rd left i) (f.f1.size : Int)) else f.f2
def loseF (f : S49) (n : Int) : S49 := ⟨f.f0, f.f1.extract 0 n.toNat, n⟩
def pLoseL (left : List Int) : Int → List (S49) → List (S49)
  | _, [] => []
  | i, f :: l => loseF f (loseN f left i) :: pLoseL left (i + 1) l
def pLose (l : List (S49)) (left : List Int) : List (S49) × Bool := if pDiskOk l = true then (pLoseL left 0 l, true) else ([], false)
theorem pLose_yes {l : List (S49)} {left : List Int} (h : pDiskOk l = true) : pLose l left = (pLoseL left 0 l, true) := if_pos h
theorem pLose_no {l : List (S49)} {left : List Int} (h : ¬ pDiskOk l = true) : pLose l left = ([], false) := if_neg h
theorem pLoseL_len (left : List Int) (l : List (S49)) : ∀ i, (pLoseL left i l).length = l.length := by
  induction l with
  | nil => intro i; rfl
  | cons f l ih => intro i; simp [pLoseL, ih]
theorem pLose_len (l : List (S49)) (left : List Int) : (pLose l left).1.length ≤ l.length := by
  unfold pLose
  split
  · simp only [pLoseL_len]; exact Nat.le_refl _
  · simp
theorem pLoseL_get (left : List Int) (l : List (S49)) : ∀ (j : Int) (i : Nat) (f : S49), l[i]? = some f → (pLoseL left j l)[i]? = some (loseF f (loseN f left (j + i))) := by
  induction l with
  | nil => intro j i f h; simp at h
  | cons g l ih =>
    intro j i f h
    cases i with
    | zero =>
      simp only [List.getElem?_cons_zero, Option.some.injEq] at h
      subst h
      simp [pLoseL]
    | succ i =>
      simp only [List.getElem?_cons_succ] at h
      simp only [pLoseL, List.getElem?_cons_succ]
      rw [ih (j + 1) i f h, show j + 1 + (i : Int) = j + ((i + 1 : Nat) : Int) by omega]
theorem rdf_mem (l : List (S49)) (i : Int) (h0 : 0 ≤ i) (h1 : i < l.length) : rd_T49 l i ∈ l := by
  unfold rd_T49
  rw [List.getD_eq_getElem?_getD, List.getElem?_eq_getElem (show i.toNat < l.length by omega)]
  exact List.getElem_mem _
theorem lose_in (a b c : Int) (h0 : 0 ≤ a) (h1 : a ≤ b) : 0 ≤ mx a (mn c b) ∧ mx a (mn c b) ≤ b := by
  unfold mx mn
  constructor <;> split <;> split <;> omega
theorem impl_LoseDisk_ev (l : List (S49)) (left : List Int) (hl : l.length ≤ 1048576) : Ev (fun k => impl_LoseDisk.f k l left) (pLose l left) := by
  simp only [impl_LoseDisk.f]
  refine Ev.bind (impl_DiskOk_ev l hl) ?_
  by_cases h : pDiskOk l = true
  · have hf := (pDiskOk_files h).2
    have e0 : 0 + l.length < 3518437208883 := by omega
    simp only [h, if_true, impl_copyDisk.f, Option.bind_some, List.length_nil, List.nil_append, e0]
    rw [pLose_yes h]
    have key := loop_up (fun k (s : List (S49)) i => impl_LoseDisk.l0 k left l (l.length : Int) i s) (l.length : Int) (pLoseL left 0 l, true)
      (fun s i => s.length = l.length ∧ s.take i.toNat = (pLoseL left 0 l).take i.toNat)
      (fun s hs => by
        obtain ⟨hb, ht⟩ := hs
        have c : ¬ (l.length : Int) < (l.length : Int) := by omega
        simp only [impl_LoseDisk.l0, c, if_false]
        apply ev_some
        rw [List.take_of_length_le (by omega), List.take_of_length_le (by rw [pLoseL_len]; omega)] at ht
        rw [ht])
      (fun s i h0 h1 hs ih => by
        obtain ⟨hb, ht⟩ := hs
        have c2 : i < (s.length : Int) := by omega
        have ei : wrap64 (i + 1) = i + 1 := w64 (by omega) (by omega)
        have hm := hf _ (rdf_mem l i h0 h1)
        have n0 := hm.2.2.1
        have n1 := hm.2.2.2
        have hn := ih (s.set i.toNat (loseF (rd_T49 l i) (loseN (rd_T49 l i) left i))) ⟨by simp [hb], by
          rw [show (i + 1).toNat = i.toNat + 1 by omega]
          refine take_set (pLoseL left 0 l) s i.toNat _ (by rw [pLoseL_len]; exact hb) (by rw [pLoseL_len]; omega) ht ?_
          rw [pLoseL_get left l 0 i.toNat (rd_T49 l i) (getElem_rd l i h0 h1 z49), show (0 : Int) + ((i.toNat : Nat) : Int) = i by omega]⟩
        simp only [impl_LoseDisk.l0, h1, h0, c2, if_true, ei]
        by_cases hc : i < (left.length : Int)
        · have m := lose_in _ _ (rd left i) n0 n1
          simp only [hc, if_true, m.1, m.2]
          rw [loseN, if_pos hc, loseF] at hn
          exact hn
        · simp only [hc, if_false, n0, n1, if_true]
          rw [loseN, if_neg hc, loseF] at hn
          exact hn)
    exact key l.length 0 l (by omega) (by omega) ⟨rfl, by simp⟩
  · rw [pLose_no h]
    simp only [h, if_false]
    exact Ev.now _

theorem impl_AllKept_l0 (l : List (S49)) (hl : l.length ≤ 1048576) : ∀ (d : Nat) (i : Int), 0 ≤ i → i + d = l.length → Ev (fun k => impl_AllKept.l0 k l (l.length : Int) i l) (pKeptL (l.drop i.toNat) && pDiskOk l) := by
  intro d
  induction d with
  | zero =>
    intro i h0 h
    apply ev_succ
    have c : ¬ i < (l.length : Int) := by omega
    simp only [impl_AllKept.l0, c, if_false]
    rw [List.drop_of_length_le (by omega)]
    refine Ev.bind (impl_DiskOk_ev l hl) ?_
    simp [pKeptL]
  | succ d ih =>
    intro i h0 h
    apply ev_succ
    have c : i < (l.length : Int) := by omega
    have e1 : wrap64 (i + 1) = i + 1 := w64 (by omega) (by omega)
    have hh := ih (i + 1) (by omega) (by omega)
    rw [drop_file l i h0 c, pKeptL_cons]
    by_cases hq : (rd_T49 l i).f2 = ((rd_T49 l i).f1.size : Int)
    · simp only [impl_AllKept.l0, c, h0, if_true, e1, hq, decide_true, Bool.true_and]
      exact hh
    · simp only [impl_AllKept.l0, c, h0, if_true, hq, if_false, decide_false, Bool.false_and]
      exact Ev.now _
theorem impl_AllKept_ev (l : List (S49)) (hl : l.length ≤ 1048576) : Ev (fun k => impl_AllKept.f k l) (pAllKept l) := by
  simp only [impl_AllKept.f]
  simpa [pAllKept] using impl_AllKept_l0 l hl l.length 0 (by omega) (by omega)

theorem laws_lefts_l0 (p : List Int) (hp : p.length = 12) : ∀ (d : Nat) (i : Int) (acc : List Int), 0 ≤ i → i + d = 6 → (acc.length : Int) = i → ∃ r, Ev (fun k => laws_lefts.l0 k p acc i) r := by
  intro d
  induction d with
  | zero =>
    intro i acc h0 h ha
    refine ⟨acc, ev_succ ?_⟩
    have c : ¬ i < 6 := by omega
    simp only [laws_lefts.l0, c, if_false]
    exact Ev.now _
  | succ d ih =>
    intro i acc h0 h ha
    have c : i < 6 := by omega
    have c1 : i < (p.length : Int) := by omega
    have c2 : acc.length < 17592186044416 := by omega
    have ei : wrap64 (i + 1) = i + 1 := w64 (by omega) (by omega)
    obtain ⟨r, hr⟩ := ih (i + 1) (acc ++ [Int.tmod (rd p i) 300]) (by omega) (by omega) (by rw [List.length_append, List.length_singleton]; omega)
    refine ⟨r, ev_succ ?_⟩
    simp only [laws_lefts.l0, c, h0, c1, c2, if_true, ei]
    exact hr
theorem laws_lefts_ev (p : List Int) (hp : p.length = 12) : ∃ r, Ev (fun k => laws_lefts.f k p) r := by
  simp only [laws_lefts.f]
  exact laws_lefts_l0 p hp 6 0 [] (by omega) (by omega) rfl
theorem laws_sameDisk_ev (l : List (S49)) (hl : l.length ≤ 1048576) : Ev (fun k => laws_sameDisk.f k l l) true := by
  simp only [laws_sameDisk.f, if_true]
  have key := loop_up (fun k (_ : Unit) i => laws_sameDisk.l0 k i l l) (l.length : Int) true (fun _ _ => True)
    (fun _ _ => by
      have c : ¬ (l.length : Int) < (l.length : Int) := by omega
      simp only [laws_sameDisk.l0, c, if_false]
      exact Ev.now _)
    (fun _ i h0 h1 _ ih => by
      have e2 : wrap64 (i + 1) = i + 1 := w64 (by omega) (by omega)
      simp only [laws_sameDisk.l0, h1, h0, if_true, e2, beq_self_eq_true, Bool.not_true, Bool.or_self, Bool.false_eq_true, if_false]
      exact ih () trivial)
  exact key l.length 0 () (by omega) (by omega) trivial
theorem laws_begins_ev (a b : ByteArray) (h : b.extract 0 a.size = a) (hs : a.size ≤ b.size) : laws_begins.f a b = some true := by
  have c1 : (a.size : Int) ≤ (b.size : Int) := by omega
  have c2 : 0 ≤ (a.size : Int) := by omega
  simp only [laws_begins.f, c1, c2, if_true, show ((a.size : Int)).toNat = a.size by omega, h, beq_self_eq_true]
theorem loseN_in (f : S49) (left : List Int) (i : Int) (h : 0 ≤ f.f2 ∧ f.f2 ≤ (f.f1.size : Int)) : f.f2 ≤ loseN f left i ∧ loseN f left i ≤ (f.f1.size : Int) := by
  unfold loseN
  split
  · unfold mx mn
    constructor <;> split <;> split <;> omega
  · omega
theorem loseF_ok {f : S49} {n : Int} (h : pFile f = true) (h1 : f.f2 ≤ n) (h2 : n ≤ (f.f1.size : Int)) : pFile (loseF f n) = true ∧ ((loseF f n).f1.size : Int) = n := by
  simp only [pFile, Bool.and_eq_true, decide_eq_true_eq] at h
  have hs : ((f.f1.extract 0 n.toNat).size : Int) = n := by rw [size_ext]; omega
  refine ⟨?_, hs⟩
  have e : pFile (loseF f n) = (decide (1 ≤ f.f0.size ∧ f.f0.size ≤ 8) && decide ((f.f1.extract 0 n.toNat).size ≤ 20000) && decide (0 ≤ n ∧ n ≤ ((f.f1.extract 0 n.toNat).size : Int))) := rfl
  rw [e]
  simp only [Bool.and_eq_true, decide_eq_true_eq]
  exact ⟨⟨h.1.1, by omega⟩, by omega, by omega⟩
theorem pLoseL_ok (left : List Int) : ∀ (l : List (S49)) (i : Int) (o : Option ByteArray), pDiskL o l = true → pDiskL o (pLoseL left i l) = true := by
  intro l
  induction l with
  | nil => intro i o h; exact h
  | cons f l ih =>
    intro i o h
    have hf : pFile f = true := pDiskL_files _ _ h f List.mem_cons_self
    have hf' := hf
    simp only [pFile, Bool.and_eq_true, decide_eq_true_eq] at hf'
    have hn := loseN_in f left i hf'.2
    have hk := (loseF_ok hf hn.1 hn.2).1
    cases o with
    | none =>
      simp only [pDiskL, Bool.and_eq_true] at h
      simp only [pLoseL, pDiskL, Bool.and_eq_true]
      exact ⟨hk, ih (i + 1) _ h.2⟩
    | some q =>
      simp only [pDiskL, Bool.and_eq_true] at h
      simp only [pLoseL, pDiskL, Bool.and_eq_true]
      exact ⟨⟨hk, h.1.2⟩, ih (i + 1) _ h.2⟩
theorem lose_again {f : S49} {n : Int} (h1 : 0 ≤ n) (h2 : n ≤ (f.f1.size : Int)) (i : Int) (hi : 0 ≤ i) : loseF (loseF f n) (loseN (loseF f n) [] i) = loseF f n := by
  have e : loseN (loseF f n) [] i = n := by
    unfold loseN
    split
    · rename_i h
      exact absurd h (by simp; omega)
    · rfl
  rw [e]
  unfold loseF
  simp only [ext_prefix _ _ _ (Nat.le_refl _)]
theorem pLoseL_again (left : List Int) : ∀ (l : List (S49)) (i j : Int), (∀ f ∈ l, pFile f = true) → 0 ≤ j → pLoseL [] j (pLoseL left i l) = pLoseL left i l := by
  intro l
  induction l with
  | nil => intro i j _ _; rfl
  | cons f l ih =>
    intro i j h hj
    have hf := h f List.mem_cons_self
    simp only [pFile, Bool.and_eq_true, decide_eq_true_eq] at hf
    have hn := loseN_in f left i hf.2
    rw [pLoseL, pLoseL, lose_again (by omega) hn.2 j hj, ih (i + 1) (j + 1) (fun g hg => h g (List.mem_cons_of_mem _ hg)) (by omega)]
theorem pLoseL_kept (left : List Int) : ∀ (l : List (S49)) (i : Int), (∀ f ∈ l, pFile f = true) → pKeptL (pLoseL left i l) = true := by
  intro l
  induction l with
  | nil => intro i _; rfl
  | cons f l ih =>
    intro i h
    have hf := h f List.mem_cons_self
    have hf' := hf
    simp only [pFile, Bool.and_eq_true, decide_eq_true_eq] at hf'
    have hn := loseN_in f left i hf'.2
    rw [pLoseL, pKeptL_cons, ih (i + 1) (fun g hg => h g (List.mem_cons_of_mem _ hg)), Bool.and_true]
    exact decide_eq_true (loseF_ok hf hn.1 hn.2).2.symm
theorem keeps_l0 (l : List (S49)) (left : List Int) (hl : l.length ≤ 30) (hf : ∀ f ∈ l, pFile f = true) : Ev (fun k => laws_FnKeeps.l0 k 0 l (pLoseL left 0 l)) true := by
  have key := loop_up (fun k (_ : Unit) i => laws_FnKeeps.l0 k i l (pLoseL left 0 l)) (l.length : Int) true (fun _ _ => True)
    (fun _ _ => by
      have c : ¬ (l.length : Int) < (l.length : Int) := by omega
      simp only [laws_FnKeeps.l0, c, if_false]
      exact Ev.now _)
    (fun _ i h0 h1 _ ih => by
      have c : i < ((pLoseL left 0 l).length : Int) := by rw [pLoseL_len]; exact h1
      have hm := hf _ (rdf_mem l i h0 h1)
      have hm' := hm
      simp only [pFile, Bool.and_eq_true, decide_eq_true_eq] at hm'
      have hn := loseN_in (rd_T49 l i) left i hm'.2
      have hg : rd_T49 (pLoseL left 0 l) i = loseF (rd_T49 l i) (loseN (rd_T49 l i) left i) := by
        have h := pLoseL_get left l 0 i.toNat (rd_T49 l i) (getElem_rd l i h0 h1 z49)
        rw [show (0 : Int) + ((i.toNat : Nat) : Int) = i by omega] at h
        unfold rd_T49 at h ⊢
        rw [List.getD_eq_getElem?_getD, h]
        rfl
      obtain ⟨f, hfe⟩ : ∃ f, rd_T49 l i = f := ⟨_, rfl⟩
      rw [hfe] at hg hm' hn
      obtain ⟨n, hne⟩ : ∃ n, loseN f left i = n := ⟨_, rfl⟩
      rw [hne] at hg hn
      have hs : ((f.f1.extract 0 n.toNat).size : Int) = n := by rw [size_ext]; omega
      have e1 : laws_begins.f (f.f1.extract 0 n.toNat) f.f1 = some true := laws_begins_ev _ _ (by rw [show (f.f1.extract 0 n.toNat).size = n.toNat by omega]) (by omega)
      have hs2 : ((f.f1.extract 0 f.f2.toNat).size : Int) = f.f2 := by rw [size_ext]; omega
      have e2 : laws_begins.f (f.f1.extract 0 f.f2.toNat) (f.f1.extract 0 n.toNat) = some true := laws_begins_ev _ _ (by rw [show (f.f1.extract 0 f.f2.toNat).size = f.f2.toNat by omega, ext_prefix _ _ _ (by omega)]) (by omega)
      have ei : wrap64 (i + 1) = i + 1 := w64 (by omega) (by omega)
      simp only [laws_FnKeeps.l0, h1, h0, c, if_true, ei, hg, hfe, loseF, e1, e2, hm'.2.1, hm'.2.2, Option.bind_some]
      exact ih () trivial)
  exact key l.length 0 () (by omega) (by omega) trivial
theorem FnKeeps : laws_FnKeeps.Pure := by
  intro l hm hl hx
  apply ev_rounds
  have hl' : l.length ≤ 140737488355328 := by omega
  simp only [laws_FnKeeps.f, laws_big.f, Option.bind_some]
  by_cases cb : (l.length : Int) > 1048576
  · simp only [cb, decide_true, if_true]
    exact Ev.now _
  simp only [cb, decide_false, Bool.false_eq_true, if_false]
  obtain ⟨d, hd, hdl, hdo⟩ := spec_DrawRightDisk_ev l hl'
  obtain ⟨p, hp, hpl, _⟩ := spec_DrawPlaces_ev l hl'
  obtain ⟨left, hleft⟩ := laws_lefts_ev p hpl
  have hok : pDiskOk d = true := by simp only [pDiskOk, hdo, Bool.and_true, decide_eq_true_eq]; omega
  have hfiles := pDiskL_files d none hdo
  have hel : (pLoseL left 0 d).length = d.length := pLoseL_len left d 0
  have heo : pDiskOk (pLoseL left 0 d) = true := by simp only [pDiskOk, pLoseL_ok left d 0 none hdo, Bool.and_true, decide_eq_true_eq]; omega
  have c1 : ((pLoseL left 0 d).length : Int) = (d.length : Int) := by omega
  refine Ev.bind hd ?_
  refine Ev.bind hp ?_
  refine Ev.bind hleft ?_
  refine Ev.bind (impl_LoseDisk_ev d left (by omega)) ?_
  rw [pLose_yes hok]
  refine Ev.bind (impl_LoseDisk_ev (pLoseL left 0 d) [] (by omega)) ?_
  rw [pLose_yes heo, pLoseL_again left d 0 0 hfiles (by omega)]
  simp only [if_true, c1]
  refine Ev.bind (laws_sameDisk_ev _ (by omega)) ?_
  simp only [if_true]
  refine Ev.bind (impl_AllKept_ev _ (by omega)) ?_
  have hak : pAllKept (pLoseL left 0 d) = true := by rw [pAllKept, pLoseL_kept left d 0 hfiles, heo]; rfl
  rw [hak]
  simp only [if_true]
  refine Ev.bind (impl_DiskOk_ev d (by omega)) ?_
  rw [hok]
  apply ev_succ
  simp only [laws_FnKeeps.j0, Bool.not_true, Bool.false_eq_true, if_false]
  exact keeps_l0 d left (by omega) hfiles

end Go.Proofs.Ytaainenplcokaaa.Pure
