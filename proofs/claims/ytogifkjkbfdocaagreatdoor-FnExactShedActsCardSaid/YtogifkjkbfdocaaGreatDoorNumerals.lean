/- Decimal numerals, and lines cut at blanks: plain Lean, no program. -/
import Derived.Lib.SplitLaws
import Derived.Lib.AtoiAllCases
import Derived.Lib.ItoaNum
import Derived.Lib.Strings
namespace Go.Proofs.YtogifkjkbfdocaaGreatDoor.Numerals
/-! numerals: digits, their value, and the two ways of reading them -/
def digs (s : List UInt8) : Prop := ∀ c ∈ s, 48 ≤ c.toNat ∧ c.toNat ≤ 57
def dval (acc : Nat) : List UInt8 → Nat
  | [] => acc
  | c :: r => dval (acc * 10 + (c.toNat - 48)) r
theorem dval_append (a b : List UInt8) : ∀ acc, dval acc (a ++ b) = dval (dval acc a) b := by
  induction a with
  | nil => intro acc; rfl
  | cons c r ih => intro acc; exact ih _
theorem dval_ge (s : List UInt8) : ∀ acc, acc ≤ dval acc s := by
  induction s with
  | nil => intro acc; exact Nat.le_refl _
  | cons c r ih => intro acc; have := ih (acc * 10 + (c.toNat - 48)); show acc ≤ dval (acc * 10 + (c.toNat - 48)) r; omega
theorem dval_lt (s : List UInt8) (hd : digs s) : ∀ acc m, acc < 10 ^ m → dval acc s < 10 ^ (m + s.length) := by
  induction s with
  | nil => intro acc m h; exact h
  | cons c r ih =>
    intro acc m h
    have h1 := hd c (List.mem_cons_self ..)
    have := ih (fun x hx => hd x (List.mem_cons_of_mem _ hx)) (acc * 10 + (c.toNat - 48)) (m + 1) (by rw [Nat.pow_succ]; omega)
    show dval (acc * 10 + (c.toNat - 48)) r < 10 ^ (m + (r.length + 1))
    rw [show m + (r.length + 1) = m + 1 + r.length by omega]
    exact this
theorem dec_ok (u : Nat) : digs (Lib.decDigits u) ∧ dval 0 (Lib.decDigits u) = u ∧ Lib.decDigits u ≠ [] := by
  induction u using Nat.strongRecOn with
  | ind u ih =>
    by_cases c : u < 10
    · rw [Lib.decDigits, dif_pos c]
      have e : (UInt8.ofNat (48 + u)).toNat = 48 + u := by rw [UInt8.toNat_ofNat']; omega
      refine ⟨fun x hx => ?_, ?_, by simp⟩
      · obtain rfl := List.mem_singleton.mp hx
        rw [e]; omega
      · show 0 * 10 + ((UInt8.ofNat (48 + u)).toNat - 48) = u
        rw [e]; omega
    · rw [Lib.decDigits, dif_neg c]
      have e : (UInt8.ofNat (48 + u % 10)).toNat = 48 + u % 10 := by rw [UInt8.toNat_ofNat']; omega
      obtain ⟨h1, h2, _⟩ := ih (u / 10) (by omega)
      refine ⟨fun x hx => ?_, ?_, by simp⟩
      · rcases List.mem_append.mp hx with h | h
        · exact h1 x h
        · obtain rfl := List.mem_singleton.mp h
          rw [e]; omega
      · rw [dval_append, h2]
        show u / 10 * 10 + ((UInt8.ofNat (48 + u % 10)).toNat - 48) = u
        rw [e]; omega
theorem dec_len (k : Nat) : ∀ u, u < 10 ^ (k + 1) → (Lib.decDigits u).length ≤ k + 1 := by
  induction k with
  | zero => intro u h; rw [Lib.decDigits, dif_pos (by simpa using h)]; simp
  | succ k ih =>
    intro u h
    by_cases c : u < 10
    · rw [Lib.decDigits, dif_pos c]; simp
    · rw [Lib.decDigits, dif_neg c, List.length_append]
      have := ih (u / 10) (by rw [Nat.pow_succ] at h; omega)
      simp; omega
theorem parse_digs (s : List UInt8) (hd : digs s) : ∀ acc, dval acc s < 10000000000000000000 → Lib.parseUint10 acc s = .ok (dval acc s) := by
  induction s with
  | nil => intro acc h; rfl
  | cons c r ih =>
    intro acc h
    have h1 := hd c (List.mem_cons_self ..)
    have h2 := dval_ge r (acc * 10 + (c.toNat - 48))
    have h3 : dval acc (c :: r) = dval (acc * 10 + (c.toNat - 48)) r := rfl
    rw [h3] at h ⊢
    rw [Lib.parseUint10, if_pos h1, if_neg (by omega), if_neg (by omega)]
    exact ih (fun x hx => hd x (List.mem_cons_of_mem _ hx)) _ h
theorem atoi_digs (s : List UInt8) (hd : digs s) (hn : s ≠ []) (h : dval 0 s ≤ 1000000000) : Lib.atoiAll s = .ok ((dval 0 s : Nat) : Int) := by
  cases s with
  | nil => exact absurd rfl hn
  | cons c r =>
    have h1 := hd c (List.mem_cons_self ..)
    rw [Lib.atoiAll_plain c r (by omega) (by omega)]
    unfold Lib.parseMag
    rw [if_neg (by simp), parse_digs _ hd 0 (by omega)]
    simp only [Lib.signless]
    rw [if_neg (by omega)]
theorem itoa_nat (u : Nat) : Lib.itoa (u : Int) = Lib.decDigits u := by
  unfold Lib.itoa; rw [if_neg (by omega), Int.toNat_natCast]
/-- A numeral in 0 .. MaxNumber in the only form that counts. -/
def isDec (s : List UInt8) : Prop := digs s ∧ dval 0 s ≤ 1000000000 ∧ Lib.decDigits (dval 0 s) = s
instance (s : List UInt8) : Decidable (isDec s) := by unfold isDec digs; infer_instance
def pDec (s : ByteArray) : Int × Bool := if isDec s.data.toList then (((dval 0 s.data.toList : Nat) : Int), true) else (0, false)
theorem pDec_yes {s : ByteArray} (h : isDec s.data.toList) : pDec s = (((dval 0 s.data.toList : Nat) : Int), true) := by unfold pDec; rw [if_pos h]
theorem pDec_no {s : ByteArray} (h : ¬ isDec s.data.toList) : pDec s = (0, false) := by unfold pDec; rw [if_neg h]
theorem isDec_atoi {s : List UInt8} (h : isDec s) : Lib.atoiAll s = .ok ((dval 0 s : Nat) : Int) :=
  atoi_digs s h.1 (by have := (dec_ok (dval 0 s)).2.2; rw [h.2.2] at this; exact this) h.2.1
theorem isDec_itoa {s : List UInt8} (h : isDec s) : Lib.itoa ((dval 0 s : Nat) : Int) = s := by rw [itoa_nat]; exact h.2.2
theorem isDec_of {s : List UInt8} {v : Int} (h0 : 0 ≤ v) (h1 : v ≤ 1000000000) (h : Lib.itoa v = s) : isDec s ∧ ((dval 0 s : Nat) : Int) = v := by
  obtain ⟨u, rfl⟩ : ∃ u : Nat, v = u := ⟨v.toNat, by omega⟩
  rw [itoa_nat] at h
  subst h
  obtain ⟨a, b, c⟩ := dec_ok u
  exact ⟨⟨a, by rw [b]; omega, by rw [b]⟩, by rw [b]⟩
theorem isDec_len {s : List UInt8} (h : isDec s) : s.length ≤ 10 := by
  have := dec_len 9 (dval 0 s) (by have := h.2.1; omega)
  rw [h.2.2] at this; exact this
theorem ByteArray.toList_inj_ {a b : ByteArray} (h : a.toList = b.toList) : a.data.toList = b.data.toList := by
  rw [Lib.toList_data, Lib.toList_data] at h
  exact h
/-! a line cut at blanks: the library's pieces, without the empty ones, are the words of one walk -/
def pieces (cur : List UInt8) : List UInt8 → List (List UInt8)
  | [] => [cur]
  | c :: r => if c = 32 then cur :: pieces [] r else pieces (cur ++ [c]) r
def words (cur : List UInt8) : List UInt8 → List (List UInt8)
  | [] => if cur = [] then [] else [cur]
  | c :: r => if c = 32 then (if cur = [] then words [] r else cur :: words [] r) else words (cur ++ [c]) r
theorem words_pieces (s : List UInt8) : ∀ cur, (pieces cur s).filter (fun x => !x.isEmpty) = words cur s := by
  induction s with
  | nil => intro cur; cases cur <;> simp [pieces, words]
  | cons c r ih =>
    intro cur
    unfold pieces words
    by_cases h : c = 32
    · rw [if_pos h, if_pos h]
      cases cur with
      | nil => simp [ih]
      | cons a b => simp [ih]
    · rw [if_neg h, if_neg h]; exact ih _
theorem pieces_miss (s : List UInt8) (h : (32 : UInt8) ∉ s) : ∀ cur, pieces cur s = [cur ++ s] := by
  induction s with
  | nil => intro cur; simp [pieces]
  | cons c r ih =>
    intro cur
    have h1 : c ≠ 32 := fun e => h (e ▸ List.mem_cons_self ..)
    rw [pieces, if_neg h1, ih (fun m => h (List.mem_cons_of_mem _ m))]
    simp
theorem pieces_hit (a r : List UInt8) (h : (32 : UInt8) ∉ a) : ∀ cur, pieces cur (a ++ 32 :: r) = (cur ++ a) :: pieces [] r := by
  induction a with
  | nil => intro cur; simp [pieces]
  | cons c b ih =>
    intro cur
    have h1 : c ≠ 32 := fun e => h (e ▸ List.mem_cons_self ..)
    rw [List.cons_append, pieces, if_neg h1, ih (fun m => h (List.mem_cons_of_mem _ m))]
    simp
theorem index_at (a r : List UInt8) (h : (32 : UInt8) ∉ a) : Lib.index (a ++ 32 :: r) [32] = ((a.length : Nat) : Int) := by
  induction a with
  | nil => rw [List.nil_append, Lib.index]; simp [List.isPrefixOf]
  | cons c b ih =>
    have h1 : c ≠ 32 := fun e => h (e ▸ List.mem_cons_self ..)
    have hp : ([32] : List UInt8).isPrefixOf (c :: (b ++ 32 :: r)) = false := by simp [List.isPrefixOf, Ne.symm h1]
    rw [List.cons_append, Lib.index, hp, ih (fun m => h (List.mem_cons_of_mem _ m))]
    simp
theorem index_none (a : List UInt8) (h : (32 : UInt8) ∉ a) : Lib.index a [32] = -1 := by
  induction a with
  | nil => simp [Lib.index]
  | cons c b ih =>
    have h1 : c ≠ 32 := fun e => h (e ▸ List.mem_cons_self ..)
    have hp : ([32] : List UInt8).isPrefixOf (c :: b) = false := by simp [List.isPrefixOf, Ne.symm h1]
    rw [Lib.index, hp, ih (fun m => h (List.mem_cons_of_mem _ m))]
    simp
theorem split_first (s : List UInt8) : (32 : UInt8) ∉ s ∨ ∃ a r, s = a ++ 32 :: r ∧ (32 : UInt8) ∉ a := by
  induction s with
  | nil => exact Or.inl (by simp)
  | cons c r ih =>
    by_cases h : c = 32
    · exact Or.inr ⟨[], r, by simp [h], by simp⟩
    · rcases ih with ih | ⟨a, t, e, ha⟩
      · refine Or.inl fun m => ?_
        rcases List.mem_cons.mp m with m | m
        · exact h m.symm
        · exact ih m
      · refine Or.inr ⟨c :: a, t, by simp [e], fun m => ?_⟩
        rcases List.mem_cons.mp m with m | m
        · exact h m.symm
        · exact ha m
theorem splitK_pieces : ∀ (n : Nat) (s : List UInt8), s.length ≤ n → Lib.splitK [32] 0 (s.count 32) s = pieces [] s := by
  intro n
  induction n with
  | zero => intro s h; obtain rfl : s = [] := List.length_eq_zero_iff.mp (by omega); rfl
  | succ n ih =>
    intro s h
    rcases split_first s with hm | ⟨a, r, rfl, ha⟩
    · rw [List.count_eq_zero_of_not_mem hm, pieces_miss s hm]; rfl
    · have hc : (a ++ 32 :: r).count 32 = r.count 32 + 1 := by
        rw [List.count_append, List.count_eq_zero_of_not_mem ha, List.count_cons]; simp
      have hl : r.length ≤ n := by rw [List.length_append, List.length_cons] at h; omega
      rw [hc, Lib.splitK, index_at a r ha, pieces_hit a r ha, ← ih r hl]
      have e1 : ¬ ((((a.length : Nat) : Int) == -1) = true) := by simp
      rw [if_neg e1]
      simp
theorem splitB_words (s : ByteArray) : (((Lib.splitB ⟨#[32]⟩ 0 (Lib.countB s ⟨#[32]⟩) s).map (·.data.toList)).filter (fun x => !x.isEmpty)) = words [] s.data.toList := by
  have hc : Lib.countB s ⟨#[32]⟩ = s.data.toList.count 32 := Lib.count_one 32 _
  rw [Lib.splitB_data, hc]
  show (Lib.splitK [32] 0 _ _).filter _ = _
  rw [splitK_pieces _ _ (Nat.le_refl _), words_pieces]
end Go.Proofs.YtogifkjkbfdocaaGreatDoor.Numerals
