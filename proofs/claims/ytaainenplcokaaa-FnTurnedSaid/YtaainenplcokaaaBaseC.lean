/- Plain words on sums: one byte that is another makes another sum. No program in sight. -/
import Derived.Test.YtaainenplcokaaaBase
namespace Go.Proofs.Ytaainenplcokaaa.Base
open Go.RowKit Go.Proofs.YtaainenplcokaaaW.PrintWords Go.Proofs.YtaainenplcokaaaW.PrintMore

theorem xor_right {a b d : Nat} (h : a ^^^ d = b ^^^ d) : a = b := by
  have := congrArg (fun x => x ^^^ d) h
  simpa [Nat.xor_assoc] using this
theorem xor_left {a b d : Nat} (h : d ^^^ a = d ^^^ b) : a = b := by
  rw [Nat.xor_comm d a, Nat.xor_comm d b] at h
  exact xor_right h
theorem xor_nat (a b : Nat) (ha : a < 4294967296) (hb : b < 4294967296) : Go.bits .xor .u32 (a : Int) (b : Int) = ((a ^^^ b : Nat) : Int) := by
  unfold Go.bits
  have ha' : a % 2 ^ IntKind.u32.bits = a := Nat.mod_eq_of_lt (by simpa [IntKind.bits] using ha)
  have hb' : b % 2 ^ IntKind.u32.bits = b := Nat.mod_eq_of_lt (by simpa [IntKind.bits] using hb)
  have hx : a ^^^ b < 2 ^ 32 := Nat.xor_lt_two_pow (by simpa using ha) (by simpa using hb)
  simp only [BitVec.ofInt_natCast, BitVec.toNat_xor, BitVec.toNat_ofNat, ha', hb', IntKind.wrap_u32]
  omega
def crcN (x : Nat) : Nat := if x % 2 = 1 then (x / 2) ^^^ 3558460437 else x / 2
theorem crc1_nat (x : Nat) (h : x < 4294967296) : crc1 (x : Int) = (crcN x : Int) := by
  unfold crc1 crcN
  have e1 : Int.tmod (x : Int) 2 = ((x % 2 : Nat) : Int) := by rw [Int.tmod_eq_emod_of_nonneg (by omega)]; omega
  have e2 : Int.tdiv (x : Int) 2 % 4294967296 = ((x / 2 : Nat) : Int) := by rw [Int.tdiv_eq_ediv_of_nonneg (by omega)]; omega
  rw [e1, e2]
  by_cases c : x % 2 = 1
  · rw [if_pos (by omega), if_pos c, show (3558460437 : Int) = ((3558460437 : Nat) : Int) from rfl, xor_nat _ _ (by omega) (by omega)]
  · rw [if_neg (by omega), if_neg c]
theorem xor_top (a : Nat) (h : a < 2147483648) : 2147483648 ≤ a ^^^ 3558460437 := by
  have h1 : (a ^^^ 3558460437).testBit 31 = true := by
    rw [Nat.testBit_xor, Nat.testBit_lt_two_pow (show a < 2 ^ 31 by simpa using h)]
    decide
  have := Nat.ge_two_pow_of_testBit h1
  simpa using this
theorem crcN_lt (x : Nat) (h : x < 4294967296) : crcN x < 4294967296 := by
  unfold crcN
  split
  · have := Nat.xor_lt_two_pow (n := 32) (x := x / 2) (y := 3558460437) (by omega) (by omega)
    simpa using this
  · omega
theorem crcN_inj {x y : Nat} (hx : x < 4294967296) (hy : y < 4294967296) (h : crcN x = crcN y) : x = y := by
  unfold crcN at h
  by_cases c : x % 2 = 1 <;> by_cases d : y % 2 = 1
  · rw [if_pos c, if_pos d] at h
    have := xor_right h
    omega
  · rw [if_pos c, if_neg d] at h
    have := xor_top (x / 2) (by omega)
    omega
  · rw [if_neg c, if_pos d] at h
    have := xor_top (y / 2) (by omega)
    omega
  · rw [if_neg c, if_neg d] at h
    omega
theorem crc1_inj {x y : Int} (hx : 0 ≤ x ∧ x < 4294967296) (hy : 0 ≤ y ∧ y < 4294967296) (h : crc1 x = crc1 y) : x = y := by
  obtain ⟨a, rfl⟩ := Int.eq_ofNat_of_zero_le hx.1
  obtain ⟨b, rfl⟩ := Int.eq_ofNat_of_zero_le hy.1
  rw [crc1_nat a (by omega), crc1_nat b (by omega)] at h
  have := crcN_inj (x := a) (y := b) (by omega) (by omega) (by omega)
  omega
theorem crcK_inj (n : Nat) {x y : Int} (hx : 0 ≤ x ∧ x < 4294967296) (hy : 0 ≤ y ∧ y < 4294967296) (h : crcK n x = crcK n y) : x = y := by
  induction n generalizing x y with
  | zero => exact h
  | succ n ih => exact crc1_inj hx hy (ih (crc1_range x) (crc1_range y) h)
theorem crcB_inj_x {x y c : Int} (hx : 0 ≤ x ∧ x < 4294967296) (hy : 0 ≤ y ∧ y < 4294967296) (hc : 0 ≤ c ∧ c < 256) (h : crcB x c = crcB y c) : x = y := by
  have h2 := crcK_inj 8 (xor_range _ _) (xor_range _ _) h
  obtain ⟨a, rfl⟩ := Int.eq_ofNat_of_zero_le hx.1
  obtain ⟨b, rfl⟩ := Int.eq_ofNat_of_zero_le hy.1
  obtain ⟨d, rfl⟩ := Int.eq_ofNat_of_zero_le hc.1
  have e : (d : Int) % 4294967296 = (d : Int) := by omega
  rw [e, xor_nat a d (by omega) (by omega), xor_nat b d (by omega) (by omega)] at h2
  have h3 : a ^^^ d = b ^^^ d := by omega
  rw [xor_right h3]
theorem crcB_inj_c {x c d : Int} (hx : 0 ≤ x ∧ x < 4294967296) (hc : 0 ≤ c ∧ c < 256) (hd : 0 ≤ d ∧ d < 256) (h : crcB x c = crcB x d) : c = d := by
  have h2 := crcK_inj 8 (xor_range _ _) (xor_range _ _) h
  obtain ⟨a, rfl⟩ := Int.eq_ofNat_of_zero_le hx.1
  obtain ⟨b, rfl⟩ := Int.eq_ofNat_of_zero_le hc.1
  obtain ⟨e, rfl⟩ := Int.eq_ofNat_of_zero_le hd.1
  have e1 : (b : Int) % 4294967296 = (b : Int) := by omega
  have e2 : (e : Int) % 4294967296 = (e : Int) := by omega
  rw [e1, e2, xor_nat a b (by omega) (by omega), xor_nat a e (by omega) (by omega)] at h2
  have h3 : a ^^^ b = a ^^^ e := by omega
  rw [xor_left h3]
theorem crcL_inj {x y : Int} (l : List Int) (hl : IsB l) (hx : 0 ≤ x ∧ x < 4294967296) (hy : 0 ≤ y ∧ y < 4294967296) (h : crcL x l = crcL y l) : x = y := by
  induction l generalizing x y with
  | nil => exact h
  | cons c l ih =>
    have := ih (fun z hz => hl z (List.mem_cons_of_mem _ hz)) (crcB_range x c) (crcB_range y c) h
    exact crcB_inj_x hx hy (hl c List.mem_cons_self) this
/-- One byte that is another: another sum. -/
theorem crcL_one {x c d : Int} (a b : List Int) (hx : 0 ≤ x ∧ x < 4294967296) (hb : IsB b) (hc : 0 ≤ c ∧ c < 256) (hd : 0 ≤ d ∧ d < 256) (h : crcL x (a ++ c :: b) = crcL x (a ++ d :: b)) : c = d := by
  rw [crcL_app, crcL_app] at h
  have hr := crcL_range x a hx
  have := crcL_inj b hb (crcB_range _ c) (crcB_range _ d) h
  exact crcB_inj_c hr hc hd this

end Go.Proofs.Ytaainenplcokaaa.Base
