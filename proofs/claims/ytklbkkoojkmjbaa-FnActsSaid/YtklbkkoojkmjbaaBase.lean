/- Plain words on numbers, bytes and rounds, for the pure statements of this seat: no program in sight. -/
import Derived.Test.YtklbkkoojkmjbaaWWords
import Derived.Test.YtklbkkoojkmjbaaWMore
import Derived.Laws.BitsLemmas
namespace Go.Proofs.Ytklbkkoojkmjbaa.Base
open Go.RowKit Go.Proofs.YtklbkkoojkmjbaaW.PrintWords Go.Proofs.YtklbkkoojkmjbaaW.PrintMore

theorem ev_succ {α : Type} {g : Nat → Option α} {r : α} (h : Ev (fun k => g (k + 1)) r) : Ev g r := Ev.step (fun _ => rfl) h
theorem ev_const {α : Type} {o : Option α} {r : α} (h : o = some r) : Ev (fun _ => o) r := ⟨0, fun _ _ => h⟩
theorem ev_some {α : Type} {r q : α} (h : r = q) : Ev (fun _ => some r) q := ⟨0, fun _ _ => by rw [h]⟩
@[simp] theorem ev_some_iff {α : Type} {r q : α} : Ev (fun _ => some r) q ↔ r = q :=
  ⟨fun h => by obtain ⟨k, h⟩ := h.rounds; exact Option.some.inj h, ev_some⟩
theorem ev_rounds {α : Type} {g : Nat → Option α} {r : α} (h : Ev g r) : ∃ k, g k = some r := h.rounds

theorem w64 {x : Int} (h0 : -9223372036854775808 ≤ x) (h1 : x ≤ 9223372036854775807) : wrap64 x = x := by unfold wrap64; omega
theorem wlit {x y : Int} (h : x = y) (h0 : -9223372036854775808 ≤ y) (h1 : y ≤ 9223372036854775807) : wrap64 x = y := by subst h; exact w64 h0 h1
theorem wf64 {x : Int} (h : (Lit.int .i64 x).wf = true) : -9223372036854775808 ≤ x ∧ x ≤ 9223372036854775807 := by
  simp [Lit.wf, IntKind.min, IntKind.max, IntKind.signed, IntKind.bits] at h
  omega
theorem wf32 {x : Int} (h : (Lit.int .u32 x).wf = true) : 0 ≤ x ∧ x < 4294967296 := by
  simp [Lit.wf, IntKind.min, IntKind.max, IntKind.signed, IntKind.bits] at h
  omega

theorem data_eq (s : ByteArray) : s.toList = s.data.toList := ByteArray.toList_eq s
theorem toList_iff {a b : ByteArray} : a.toList = b.toList ↔ a = b := by
  rw [data_eq, data_eq]
  constructor
  · intro h
    cases a; cases b
    simp only [ByteArray.mk.injEq]
    exact Array.ext' h
  · rintro rfl; rfl
theorem str_bytes (s : ByteArray) : strOfNums (bytesOf s) = s := by
  rw [← toList_iff, data_eq, strOfNums_data, data_eq]
  unfold bytesOf
  rw [List.map_map]
  conv => rhs; rw [← List.map_id s.data.toList]
  apply List.map_congr_left
  intro b _
  simp
def IsB (l : List Int) : Prop := ∀ x ∈ l, 0 ≤ x ∧ x < 256
theorem isB_bytes (s : ByteArray) : IsB (bytesOf s) := by
  intro x hx
  simp only [bytesOf, List.mem_map] at hx
  obtain ⟨b, _, rfl⟩ := hx
  have := b.toNat_lt
  omega
theorem bytes_str {l : List Int} (h : IsB l) : bytesOf (strOfNums l) = l := by
  unfold bytesOf
  rw [strOfNums_data, List.map_map]
  conv => rhs; rw [← List.map_id l]
  apply List.map_congr_left
  intro x hx
  have := h x hx
  simp only [Function.comp_apply, id_eq, UInt8.toNat_ofNat']
  omega
theorem bytes_inj {a b : ByteArray} (h : bytesOf a = bytesOf b) : a = b := by rw [← str_bytes a, h, str_bytes]
theorem bytes_app (a b : ByteArray) : bytesOf (a ++ b) = bytesOf a ++ bytesOf b := by
  unfold bytesOf
  rw [ByteArray.data_append, Array.toList_append, List.map_append]
theorem str_app (a b : List Int) : strOfNums (a ++ b) = strOfNums a ++ strOfNums b := by
  rw [← toList_iff, data_eq, data_eq, ByteArray.data_append, Array.toList_append, strOfNums_data, strOfNums_data, strOfNums_data, List.map_append]
theorem bytes_ext (s : ByteArray) (i j : Nat) : bytesOf (s.extract i j) = ((bytesOf s).drop i).take (j - i) := by
  unfold bytesOf
  rw [ByteArray.data_extract, Array.toList_extract, List.extract_eq_take_drop, List.map_take, List.map_drop]
theorem bt_rd (s : ByteArray) (i : Int) : bt s i = (bytesOf s).getD i.toNat 0 := (rd_bytesOf s i).symm
theorem bytes_len (s : ByteArray) : (bytesOf s).length = s.size := bytesOf_length s
theorem str_len (l : List Int) : (strOfNums l).size = l.length := strOfNums_size l
theorem str_inj {a b : List Int} (ha : IsB a) (hb : IsB b) (h : strOfNums a = strOfNums b) : a = b := by rw [← bytes_str ha, h, bytes_str hb]
theorem empty_str : (⟨#[]⟩ : ByteArray) = strOfNums [] := rfl
theorem IsB.app {a b : List Int} (ha : IsB a) (hb : IsB b) : IsB (a ++ b) := by
  intro x hx
  rcases List.mem_append.1 hx with h | h
  · exact ha x h
  · exact hb x h
theorem IsB.take {a : List Int} (ha : IsB a) (n : Nat) : IsB (a.take n) := fun x hx => ha x (List.mem_of_mem_take hx)
theorem IsB.drop {a : List Int} (ha : IsB a) (n : Nat) : IsB (a.drop n) := fun x hx => ha x (List.mem_of_mem_drop hx)
theorem size_app (a b : ByteArray) : (a ++ b).size = a.size + b.size := by
  rw [← bytes_len, bytes_app, List.length_append, bytes_len, bytes_len]
theorem size_ext (s : ByteArray) (i j : Nat) : (s.extract i j).size = min j s.size - i := by
  rw [← bytes_len, bytes_ext, List.length_take, List.length_drop, bytes_len]
  omega

/-! Numbers in bytes -/
def varN (n : Nat) : List Int := if n ≤ 127 then [(n : Int)] else ((n % 128 + 128 : Nat) : Int) :: varN (n / 128)
termination_by n
decreasing_by omega
theorem varN_small {n : Nat} (h : n ≤ 127) : varN n = [(n : Int)] := by rw [varN, if_pos h]
theorem varN_big {n : Nat} (h : ¬ n ≤ 127) : varN n = ((n % 128 + 128 : Nat) : Int) :: varN (n / 128) := by rw [varN, if_neg h]
theorem varN_isB (n : Nat) : IsB (varN n) := by
  induction n using Nat.strongRecOn with
  | ind n ih =>
    by_cases h : n ≤ 127
    · rw [varN_small h]; intro x hx; simp at hx; omega
    · rw [varN_big h]
      intro x hx
      rcases List.mem_cons.1 hx with rfl | hx
      · omega
      · exact ih (n / 128) (by omega) x hx
theorem varN_len (n : Nat) : 1 ≤ (varN n).length ∧ (varN n).length ≤ n + 1 := by
  induction n using Nat.strongRecOn with
  | ind n ih =>
    by_cases h : n ≤ 127
    · rw [varN_small h]; simp
    · rw [varN_big h]
      have := ih (n / 128) (by omega)
      simp only [List.length_cons]
      omega
def varB (n : Nat) : ByteArray := strOfNums (varN n)

/-! Sums -/
def crc1 (x : Int) : Int := if Int.tmod x 2 = 1 then Go.bits .xor .u32 ((Int.tdiv x 2) % 4294967296) 3558460437 else (Int.tdiv x 2) % 4294967296
def crcK : Nat → Int → Int
  | 0, x => x
  | n + 1, x => crcK n (crc1 x)
def crcB (x : Int) (c : Int) : Int := crcK 8 (Go.bits .xor .u32 x (c % 4294967296))
def crcL (x : Int) (l : List Int) : Int := l.foldl crcB x
theorem crcL_cons (x c : Int) (l : List Int) : crcL x (c :: l) = crcL (crcB x c) l := by unfold crcL; rw [List.foldl_cons]
theorem crcL_nil (x : Int) : crcL x [] = x := by unfold crcL; rw [List.foldl_nil]
theorem crcL_app (x : Int) (a b : List Int) : crcL x (a ++ b) = crcL (crcL x a) b := by
  induction a generalizing x with
  | nil => rw [List.nil_append, crcL_nil]
  | cons c l ih => rw [List.cons_append, crcL_cons, crcL_cons, ih]
theorem u32_range (n : Int) : 0 ≤ IntKind.u32.wrap n ∧ IntKind.u32.wrap n < 4294967296 := by
  rw [IntKind.wrap_u32]
  omega
theorem xor_range (x y : Int) : 0 ≤ Go.bits .xor .u32 x y ∧ Go.bits .xor .u32 x y < 4294967296 := by
  unfold Go.bits
  exact u32_range _
theorem crc1_range (x : Int) : 0 ≤ crc1 x ∧ crc1 x < 4294967296 := by
  unfold crc1
  split
  · exact xor_range _ _
  · omega
theorem crcK_range (n : Nat) (x : Int) (h : 0 ≤ x ∧ x < 4294967296) : 0 ≤ crcK n x ∧ crcK n x < 4294967296 := by
  induction n generalizing x with
  | zero => exact h
  | succ n ih => exact ih _ (crc1_range x)
theorem crcB_range (x c : Int) : 0 ≤ crcB x c ∧ crcB x c < 4294967296 := crcK_range 8 _ (xor_range _ _)
theorem crcL_range (x : Int) (l : List Int) (h : 0 ≤ x ∧ x < 4294967296) : 0 ≤ crcL x l ∧ crcL x l < 4294967296 := by
  induction l generalizing x with
  | nil => rw [crcL_nil]; exact h
  | cons c l ih => rw [crcL_cons]; exact ih _ (crcB_range x c)
def four (x : Int) : List Int := [(x / 16777216) % 256, (x / 65536) % 256, (x / 256) % 256, x % 256]
theorem four_isB (x : Int) : IsB (four x) := by
  intro y hy
  simp only [four, List.mem_cons, List.not_mem_nil, or_false] at hy
  omega
theorem four_inj {x y : Int} (hx : 0 ≤ x ∧ x < 4294967296) (hy : 0 ≤ y ∧ y < 4294967296) (h : four x = four y) : x = y := by
  simp only [four, List.cons.injEq, and_true] at h
  omega
def sumN (s : ByteArray) : Int := crcL 4294967295 (bytesOf s)
theorem sumN_range (s : ByteArray) : 0 ≤ sumN s ∧ sumN s < 4294967296 := crcL_range _ _ (by omega)

theorem drop_bt (s : ByteArray) (i : Int) (h0 : 0 ≤ i) (h1 : i < s.size) : (bytesOf s).drop i.toNat = bt s i :: (bytesOf s).drop (i + 1).toNat := by
  have hl : i.toNat < (bytesOf s).length := by rw [bytes_len]; omega
  rw [List.drop_eq_getElem_cons hl, bt_rd, List.getD_eq_getElem?_getD, List.getElem?_eq_getElem hl, show (i + 1).toNat = i.toNat + 1 by omega]
  rfl
theorem var_div (n : Nat) (h : n < 140737488355328) : wrap64 (Int.tdiv (n : Int) 128) = ((n / 128 : Nat) : Int) := by
  rw [Int.tdiv_eq_ediv_of_nonneg (by omega), w64 (by omega) (by omega)]
  omega
theorem var_mod (n : Nat) : wrap64 (Int.tmod (n : Int) 128 + 128) % 256 = ((n % 128 + 128 : Nat) : Int) := by
  rw [Int.tmod_eq_emod_of_nonneg (by omega), w64 (by omega) (by omega)]
  omega
def pVarText (n : Int) : ByteArray × Bool := if 0 ≤ n ∧ n ≤ 1000000000 then (varB n.toNat, true) else (⟨#[]⟩, false)
theorem pVarText_yes {n : Int} (h : 0 ≤ n ∧ n ≤ 1000000000) : pVarText n = (varB n.toNat, true) := by rw [pVarText, if_pos h]
theorem pVarText_no {n : Int} (h : ¬ (0 ≤ n ∧ n ≤ 1000000000)) : pVarText n = (⟨#[]⟩, false) := by rw [pVarText, if_neg h]
def pShortText (s : ByteArray) : ByteArray × Bool := if s.size ≤ 20000 then (varB s.size ++ s, true) else (⟨#[]⟩, false)
theorem pShortText_yes {s : ByteArray} (h : s.size ≤ 20000) : pShortText s = (varB s.size ++ s, true) := by rw [pShortText, if_pos h]
theorem pShortText_no {s : ByteArray} (h : ¬ s.size ≤ 20000) : pShortText s = (⟨#[]⟩, false) := by rw [pShortText, if_neg h]

/-! Figures -/
def fig (d : Int) : Int := if d < 10 then 48 + d else 87 + d
def hexL : List Int → List Int
  | [] => []
  | c :: l => fig (c / 16) :: fig (c % 16) :: hexL l
theorem hexL_len (l : List Int) : (hexL l).length = 2 * l.length := by
  induction l with
  | nil => rfl
  | cons c l ih => simp only [hexL, List.length_cons, ih]; omega
def pHex (s : ByteArray) : ByteArray × Bool := if s.size ≤ 20000 then (strOfNums (hexL (bytesOf s)), true) else (⟨#[]⟩, false)
theorem pHex_yes {s : ByteArray} (h : s.size ≤ 20000) : pHex s = (strOfNums (hexL (bytesOf s)), true) := by rw [pHex, if_pos h]
theorem pHex_no {s : ByteArray} (h : ¬ s.size ≤ 20000) : pHex s = (⟨#[]⟩, false) := by rw [pHex, if_neg h]
theorem fig_spec (d : Int) (h0 : 0 ≤ d) (h1 : d < 16) : (if d < 10 then wrap64 (48 + d) % 256 else wrap64 (wrap64 (97 + d) - 10) % 256) = fig d := by
  unfold fig
  split
  · rw [w64 (by omega) (by omega)]; omega
  · rw [w64 (x := 97 + d) (by omega) (by omega), w64 (by omega) (by omega)]; omega
theorem fig_impl (d : Int) (h0 : 0 ≤ d) (h1 : d < 16) : bt (⟨#[48, 49, 50, 51, 52, 53, 54, 55, 56, 57, 97, 98, 99, 100, 101, 102]⟩ : ByteArray) d = fig d := by
  have : d = 0 ∨ d = 1 ∨ d = 2 ∨ d = 3 ∨ d = 4 ∨ d = 5 ∨ d = 6 ∨ d = 7 ∨ d = 8 ∨ d = 9 ∨ d = 10 ∨ d = 11 ∨ d = 12 ∨ d = 13 ∨ d = 14 ∨ d = 15 := by omega
  rcases this with rfl | rfl | rfl | rfl | rfl | rfl | rfl | rfl | rfl | rfl | rfl | rfl | rfl | rfl | rfl | rfl <;> rfl

/-! Sealed -/
theorem bits_and255 (x : Int) (h0 : 0 ≤ x) (h1 : x < 9223372036854775808) : Go.bits .and .i64 x 255 = x % 256 := by
  have := bits_mask .i64 63 (by decide) (fun n h0 h1 => by rw [IntKind.wrap_i64]; omega) 8 (by decide) x h0 (by omega)
  simpa using this
def sealB (s : ByteArray) : ByteArray := s ++ strOfNums (four (sumN s))
def pSealed (s : ByteArray) : ByteArray × Bool := if s.size ≤ 20000 then (sealB s, true) else (⟨#[]⟩, false)
theorem pSealed_yes {s : ByteArray} (h : s.size ≤ 20000) : pSealed s = (sealB s, true) := by rw [pSealed, if_pos h]
theorem pSealed_no {s : ByteArray} (h : ¬ s.size ≤ 20000) : pSealed s = (⟨#[]⟩, false) := by rw [pSealed, if_neg h]
theorem sealB_size (s : ByteArray) : (sealB s).size = s.size + 4 := by rw [sealB, size_app, str_len]; rfl
def pUnsealed (t : ByteArray) : ByteArray × Bool := if 4 ≤ t.size ∧ t.size ≤ 20004 ∧ t = sealB (t.extract 0 (t.size - 4)) then (t.extract 0 (t.size - 4), true) else (⟨#[]⟩, false)
theorem pUnsealed_yes {t : ByteArray} (h : 4 ≤ t.size ∧ t.size ≤ 20004 ∧ t = sealB (t.extract 0 (t.size - 4))) : pUnsealed t = (t.extract 0 (t.size - 4), true) := by rw [pUnsealed, if_pos h]
theorem pUnsealed_no {t : ByteArray} (h : ¬ (4 ≤ t.size ∧ t.size ≤ 20004 ∧ t = sealB (t.extract 0 (t.size - 4)))) : pUnsealed t = (⟨#[]⟩, false) := by rw [pUnsealed, if_neg h]
theorem split_at (t : ByteArray) (i : Nat) : t = t.extract 0 i ++ t.extract i t.size := by
  apply bytes_inj
  rw [bytes_app, bytes_ext, bytes_ext, List.drop_zero, Nat.sub_zero, ← bytes_len t, List.take_of_length_le (l := (bytesOf t).drop i) (by simp), List.take_append_drop]
theorem app_inj {a b c d : ByteArray} (h : a ++ b = c ++ d) (hs : a.size = c.size) : a = c ∧ b = d := by
  have h1 : bytesOf a ++ bytesOf b = bytesOf c ++ bytesOf d := by rw [← bytes_app, ← bytes_app, h]
  have h2 := List.append_inj h1 (by rw [bytes_len, bytes_len, hs])
  exact ⟨bytes_inj h2.1, bytes_inj h2.2⟩
theorem seal_iff (t : ByteArray) : (t = sealB (t.extract 0 (t.size - 4))) ↔ t.extract (t.size - 4) t.size = strOfNums (four (sumN (t.extract 0 (t.size - 4)))) := by
  constructor
  · intro e
    have e' : t.extract 0 (t.size - 4) ++ t.extract (t.size - 4) t.size = sealB (t.extract 0 (t.size - 4)) := by rw [← split_at]; exact e
    unfold sealB at e'
    exact (app_inj e' rfl).2
  · intro e
    unfold sealB
    rw [← e]
    exact split_at t _

/-! Lists of whole numbers -/
def rise (lo hi : Int) : Option Int → List Int → Bool
  | _, [] => true
  | none, x :: l => decide (lo ≤ x ∧ x ≤ hi) && rise lo hi (some x) l
  | some q, x :: l => decide (lo ≤ x ∧ x ≤ hi) && decide (q < x) && rise lo hi (some x) l
def prev (l : List Int) (i : Int) : Option Int := if i = 0 then none else some (rd l (i - 1))
theorem rise_len (hi : Int) : ∀ (l : List Int) (q : Int), rise 1 hi (some q) l = true → q ≤ hi → q + l.length ≤ hi := by
  intro l
  induction l with
  | nil => intro q _ h; simpa using h
  | cons x l ih =>
    intro q h hq
    simp only [rise, Bool.and_eq_true, decide_eq_true_eq] at h
    have := ih x h.2 h.1.1.2
    simp only [List.length_cons]
    omega
theorem rise_len0 (hi : Int) (l : List Int) (h : rise 1 hi none l = true) (h0 : l ≠ []) : (l.length : Int) ≤ hi := by
  cases l with
  | nil => exact absurd rfl h0
  | cons x l =>
    simp only [rise, Bool.and_eq_true, decide_eq_true_eq] at h
    have := rise_len hi l x h.2 h.1.2
    simp only [List.length_cons]
    omega
theorem drop_rd (l : List Int) (i : Int) (h0 : 0 ≤ i) (h1 : i < l.length) : l.drop i.toNat = rd l i :: l.drop (i + 1).toNat := by
  have hl : i.toNat < l.length := by omega
  rw [List.drop_eq_getElem_cons hl, rd, List.getD_eq_getElem?_getD, List.getElem?_eq_getElem hl, show (i + 1).toNat = i.toNat + 1 by omega]
  rfl
def pConfOk (l : List Int) : Bool := decide (0 < l.length) && rise 1 4 none l
theorem confOk_len (l : List Int) (h : pConfOk l = true) : 1 ≤ l.length ∧ l.length ≤ 4 := by
  simp only [pConfOk, Bool.and_eq_true, decide_eq_true_eq] at h
  have := rise_len0 4 l h.2 (by intro e; rw [e] at h; simp at h)
  omega
theorem take_set {α : Type} (a b : List α) (i : Nat) (v : α) (h : b.length = a.length) (hi : i < a.length) (ht : b.take i = a.take i) (hv : a[i]? = some v) : (b.set i v).take (i + 1) = a.take (i + 1) := by
  apply List.ext_getElem?
  intro j
  have hj : ∀ j, j < i → b[j]? = a[j]? := by
    intro j hj
    have := congrArg (fun l => l[j]?) ht
    simpa [List.getElem?_take, hj] using this
  simp only [List.getElem?_take, List.getElem?_set]
  by_cases h1 : j < i + 1
  · simp only [h1, if_true]
    by_cases h2 : i = j
    · subst h2
      simp only [if_true]
      rw [if_pos (by omega), hv]
    · simp only [h2, if_false]
      exact hj j (by omega)
  · simp only [h1, if_false]

end Go.Proofs.Ytklbkkoojkmjbaa.Base
