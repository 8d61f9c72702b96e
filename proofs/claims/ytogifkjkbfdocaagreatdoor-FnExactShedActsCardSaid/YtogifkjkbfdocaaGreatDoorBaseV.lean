/- Plain words on numbers read out of bytes: no program in sight. -/
import Derived.Test.YtogifkjkbfdocaaGreatDoorBase
namespace Go.Proofs.YtogifkjkbfdocaaGreatDoor.Base
open Go.RowKit Go.Proofs.YtogifkjkbfdocaaGreatDoorW.PrintWords Go.Proofs.YtogifkjkbfdocaaGreatDoorW.PrintMore

def valL : List Int → Nat
  | [] => 0
  | c :: l => c.toNat % 128 + 128 * valL l
def rvF : Nat → Int → Int → Bool → List Int → Option (Int × Nat)
  | 0, _, _, _, _ => none
  | _ + 1, _, _, _, [] => none
  | f + 1, sc, n, fst, c :: l =>
    if c > 127 then (rvF f (sc * 128) (n + c % 128 * sc) false l).map fun p => (p.1, p.2 + 1)
    else if (fst = false ∧ c = 0) ∨ n + c % 128 * sc > 1000000000 then none
    else some (n + c % 128 * sc, 1)
theorem rvF_more {f : Nat} {sc n : Int} {fst : Bool} {c : Int} {l : List Int} (h : c > 127) : rvF (f + 1) sc n fst (c :: l) = (rvF f (sc * 128) (n + c % 128 * sc) false l).map fun p => (p.1, p.2 + 1) := by rw [rvF, if_pos h]
theorem rvF_stop {f : Nat} {sc n : Int} {fst : Bool} {c : Int} {l : List Int} (h : ¬ c > 127) (h2 : (fst = false ∧ c = 0) ∨ n + c % 128 * sc > 1000000000) : rvF (f + 1) sc n fst (c :: l) = none := by rw [rvF, if_neg h, if_pos h2]
theorem rvF_take {f : Nat} {sc n : Int} {fst : Bool} {c : Int} {l : List Int} (h : ¬ c > 127) (h2 : ¬ (fst = false ∧ c = 0)) (h3 : ¬ n + c % 128 * sc > 1000000000) : rvF (f + 1) sc n fst (c :: l) = some (n + c % 128 * sc, 1) := by
  rw [rvF, if_neg h, if_neg (fun h => h.elim h2 h3)]
theorem lt_big {n : Nat} (h : ¬ (n : Int) > 1000000000) : n < 140737488355328 := by omega
theorem lt_128 {b : Int} (h : b < 128) : b ≤ 127 := by omega
theorem not_big {b : Int} (h : b < 128) : ¬ b > 127 := by omega
theorem is_big {b : Int} (h : ¬ b < 128) : b > 127 := by omega
theorem big_app {ds : List Int} {b : Int} (hd : ∀ d ∈ ds, 128 ≤ d ∧ d ≤ 255) (h : ¬ b < 128) (h2 : b ≤ 255) : ∀ d ∈ ds ++ [b], 128 ≤ d ∧ d ≤ 255 := by
  intro d hm
  rcases List.mem_append.1 hm with hm | hm
  · exact hd d hm
  · simp only [List.mem_singleton] at hm
    subst hm
    omega
def rvOut (base : Int) : Option (Int × Nat) → Int × Int × Bool
  | none => (0, 0, false)
  | some p => (p.1, base + p.2, true)
def rvL (l : List Int) : Option (Int × Nat) := rvF 5 1 0 true l
def pReadVar (s : ByteArray) (at_ : Int) : Int × Int × Bool := if 0 ≤ at_ ∧ at_ ≤ s.size then rvOut at_ (rvL ((bytesOf s).drop at_.toNat)) else (0, 0, false)
theorem pReadVar_in {s : ByteArray} {at_ : Int} (h : 0 ≤ at_ ∧ at_ ≤ s.size) : pReadVar s at_ = rvOut at_ (rvF 5 1 0 true ((bytesOf s).drop at_.toNat)) := by rw [pReadVar, if_pos h]; rfl
theorem pReadVar_out {s : ByteArray} {at_ : Int} (h : ¬ (0 ≤ at_ ∧ at_ ≤ s.size)) : pReadVar s at_ = (0, 0, false) := by rw [pReadVar, if_neg h]
theorem rvOut_map (base : Int) (o : Option (Int × Nat)) : rvOut base (o.map fun p => (p.1, p.2 + 1)) = rvOut (base + 1) o := by
  cases o with
  | none => rfl
  | some p => simp only [Option.map_some, rvOut, Prod.mk.injEq, and_true, true_and]; omega

theorem valL_snoc (ds : List Int) (c : Int) : valL (ds ++ [c]) = valL ds + 128 ^ ds.length * (c.toNat % 128) := by
  induction ds with
  | nil => simp [valL]
  | cons d ds ih =>
    simp only [List.cons_append, valL, ih, List.length_cons, Nat.pow_succ]
    rw [Nat.mul_add, Nat.mul_comm (128 ^ ds.length) 128, Nat.mul_assoc, Nat.add_assoc]
theorem valL_pos (ds : List Int) (c : Int) (h0 : 0 ≤ c) (h1 : c ≤ 127) (hc : c ≠ 0) : 1 ≤ valL (ds ++ [c]) := by
  induction ds with
  | nil => simp only [List.nil_append, valL]; omega
  | cons d ds ih => simp only [List.cons_append, valL]; omega
theorem valL_varN (n : Nat) : valL (varN n) = n := by
  induction n using Nat.strongRecOn with
  | ind n ih =>
    by_cases h : n ≤ 127
    · rw [varN_small h]; simp only [valL]; omega
    · rw [varN_big h]
      simp only [valL, ih (n / 128) (by omega)]
      omega
theorem canon (ds : List Int) (c : Int) (hd : ∀ d ∈ ds, 128 ≤ d ∧ d ≤ 255) (h0 : 0 ≤ c) (h1 : c ≤ 127) : varN (valL (ds ++ [c])) = ds ++ [c] ↔ (ds = [] ∨ c ≠ 0) := by
  induction ds with
  | nil =>
    simp only [List.nil_append, valL, Nat.mul_zero, Nat.add_zero, true_or, iff_true]
    rw [varN_small (by omega)]
    congr 1
    omega
  | cons d ds ih =>
    have ihh := ih (fun x hx => hd x (List.mem_cons_of_mem _ hx))
    have hdd := hd d List.mem_cons_self
    have hq : (d.toNat % 128 + 128 * valL (ds ++ [c])) / 128 = valL (ds ++ [c]) := by omega
    have hm : (d.toNat % 128 + 128 * valL (ds ++ [c])) % 128 = d.toNat % 128 := by omega
    simp only [List.cons_append, valL]
    by_cases hc : c = 0
    · constructor
      · intro h
        exfalso
        by_cases hn : d.toNat % 128 + 128 * valL (ds ++ [c]) ≤ 127
        · rw [varN_small hn] at h
          have := congrArg List.length h
          simp at this
        · rw [varN_big hn, hq] at h
          have h2 := (List.cons.inj h).2
          rcases ihh.1 h2 with rfl | h3
          · simp only [List.nil_append, valL, hc] at hn
            omega
          · exact h3 hc
      · rintro (h | h)
        · cases h
        · exact absurd hc h
    · have hp := valL_pos ds c h0 h1 hc
      have hn : ¬ d.toNat % 128 + 128 * valL (ds ++ [c]) ≤ 127 := by omega
      rw [varN_big hn, hq, hm, ihh.2 (Or.inr hc)]
      simp only [List.cons.injEq, and_true, hc, ne_eq, not_false_eq_true, or_true, iff_true]
      omega
theorem varN_snoc (n : Nat) : ∃ ds c, varN n = ds ++ [c] ∧ (∀ d ∈ ds, 128 ≤ d ∧ d ≤ 255) ∧ 0 ≤ c ∧ c ≤ 127 ∧ (ds = [] ∨ c ≠ 0) := by
  induction n using Nat.strongRecOn with
  | ind n ih =>
    by_cases h : n ≤ 127
    · exact ⟨[], n, by rw [varN_small h]; rfl, by simp, by omega, by omega, Or.inl rfl⟩
    · obtain ⟨ds, c, e, hd, h0, h1, h2⟩ := ih (n / 128) (by omega)
      refine ⟨((n % 128 + 128 : Nat) : Int) :: ds, c, by rw [varN_big h, e]; rfl, ?_, h0, h1, Or.inr ?_⟩
      · intro d hdm
        rcases List.mem_cons.1 hdm with rfl | hdm
        · omega
        · exact hd d hdm
      · rcases h2 with rfl | h2
        · intro hc
          have := valL_varN (n / 128)
          rw [e, hc] at this
          simp [valL] at this
          omega
        · exact h2
theorem shl7 (x : Int) (m : Nat) (h0 : 0 ≤ x) (h1 : x < 128) (hm : m ≤ 28) : shl .i64 x (m : Int) = x * 2 ^ m := by
  unfold shl
  have e : min ((m : Int).toNat) IntKind.i64.bits = m := by
    rw [Int.toNat_natCast]
    exact Nat.min_eq_left (Nat.le_trans hm (by decide))
  rw [e, IntKind.wrap_i64]
  have hp : (2 : Int) ^ m ≤ 2 ^ 28 := by exact_mod_cast Nat.pow_le_pow_right (by decide) hm
  have hp0 : (0 : Int) ≤ 2 ^ m := Int.pow_nonneg (by decide)
  have h2 : x * 2 ^ m ≤ 128 * 2 ^ 28 := Int.mul_le_mul (by omega) hp hp0 (by decide)
  have h3 : 0 ≤ x * 2 ^ m := Int.mul_nonneg h0 hp0
  omega

theorem rvF_ok : ∀ (f : Nat) (sc n : Int) (fst : Bool) (l : List Int) (p : Int × Nat), 0 ≤ sc → 0 ≤ n → rvF f sc n fst l = some p → 0 ≤ p.1 ∧ p.1 ≤ 1000000000 ∧ 1 ≤ p.2 ∧ p.2 ≤ l.length ∧ p.2 ≤ f := by
  intro f
  induction f with
  | zero => intro sc n fst l p _ _ h; simp [rvF] at h
  | succ f ih =>
    intro sc n fst l p h0 h1 h
    cases l with
    | nil => simp [rvF] at h
    | cons c l =>
      have hm : 0 ≤ c % 128 * sc := Int.mul_nonneg (by omega) h0
      rw [rvF] at h
      by_cases hc : c > 127
      · rw [if_pos hc] at h
        obtain ⟨q, hq, rfl⟩ := Option.map_eq_some_iff.1 h
        have := ih _ _ _ _ q (by omega) (by omega) hq
        simp only [List.length_cons]
        omega
      · rw [if_neg hc] at h
        by_cases hg : (fst = false ∧ c = 0) ∨ n + c % 128 * sc > 1000000000
        · rw [if_pos hg] at h; cases h
        · rw [if_neg hg] at h
          obtain rfl := Option.some.inj h
          simp only [List.length_cons]
          have : ¬ n + c % 128 * sc > 1000000000 := fun h => hg (Or.inr h)
          omega
theorem rvL_ok {l : List Int} {p : Int × Nat} (h : rvL l = some p) : 0 ≤ p.1 ∧ p.1 ≤ 1000000000 ∧ 1 ≤ p.2 ∧ p.2 ≤ l.length ∧ p.2 ≤ 5 := rvF_ok 5 1 0 true l p (by decide) (by decide) h
theorem pReadVar_ok (s : ByteArray) (at_ : Int) (h : (pReadVar s at_).2.2 = true) : 0 ≤ at_ ∧ 0 ≤ (pReadVar s at_).1 ∧ (pReadVar s at_).1 ≤ 1000000000 ∧ at_ < (pReadVar s at_).2.1 ∧ (pReadVar s at_).2.1 ≤ s.size := by
  unfold pReadVar at h ⊢
  by_cases c : 0 ≤ at_ ∧ at_ ≤ (s.size : Int)
  · rw [if_pos c] at h ⊢
    cases ho : rvL ((bytesOf s).drop at_.toNat) with
    | none => rw [ho] at h; cases h
    | some p =>
      have := rvL_ok ho
      rw [List.length_drop, bytes_len] at this
      simp only [rvOut]
      omega
  · rw [if_neg c] at h; cases h
theorem pReadVar_no (s : ByteArray) (at_ : Int) (h : (pReadVar s at_).2.2 = false) : pReadVar s at_ = (0, 0, false) := by
  unfold pReadVar at h ⊢
  by_cases c : 0 ≤ at_ ∧ at_ ≤ (s.size : Int)
  · rw [if_pos c] at h ⊢
    cases ho : rvL ((bytesOf s).drop at_.toNat) with
    | none => rfl
    | some p => rw [ho] at h; cases h
  · rw [if_neg c]
def pReadShort (s : ByteArray) (at_ : Int) : ByteArray × Int × Bool :=
  if (pReadVar s at_).2.2 = true ∧ (pReadVar s at_).1 ≤ 20000 ∧ (pReadVar s at_).1 ≤ s.size - (pReadVar s at_).2.1 then
    (s.extract (pReadVar s at_).2.1.toNat ((pReadVar s at_).2.1 + (pReadVar s at_).1).toNat, (pReadVar s at_).2.1 + (pReadVar s at_).1, true)
  else (⟨#[]⟩, 0, false)
theorem pReadShort_yes {s : ByteArray} {at_ : Int} (h : (pReadVar s at_).2.2 = true ∧ (pReadVar s at_).1 ≤ 20000 ∧ (pReadVar s at_).1 ≤ s.size - (pReadVar s at_).2.1) :
    pReadShort s at_ = (s.extract (pReadVar s at_).2.1.toNat ((pReadVar s at_).2.1 + (pReadVar s at_).1).toNat, (pReadVar s at_).2.1 + (pReadVar s at_).1, true) := by rw [pReadShort, if_pos h]
theorem pReadShort_no {s : ByteArray} {at_ : Int} (h : ¬ ((pReadVar s at_).2.2 = true ∧ (pReadVar s at_).1 ≤ 20000 ∧ (pReadVar s at_).1 ≤ s.size - (pReadVar s at_).2.1)) :
    pReadShort s at_ = (⟨#[]⟩, 0, false) := by rw [pReadShort, if_neg h]

/-- What is read is the number's own text. -/
theorem rvF_canon : ∀ (f : Nat) (sc n : Int) (ds : List Int) (fst : Bool) (l : List Int) (p : Int × Nat), IsB l → (∀ d ∈ ds, 128 ≤ d ∧ d ≤ 255) → (fst = true ↔ ds = []) → sc = ((128 ^ ds.length : Nat) : Int) → n = (valL ds : Int) →
    rvF f sc n fst l = some p → p.1 = (valL (ds ++ l.take p.2) : Int) ∧ varN (valL (ds ++ l.take p.2)) = ds ++ l.take p.2 := by
  intro f
  induction f with
  | zero => intro sc n ds fst l p _ _ _ _ _ h; simp [rvF] at h
  | succ f ih =>
    intro sc n ds fst l p hB hd hf hsc hn h
    cases l with
    | nil => simp [rvF] at h
    | cons c l =>
      have hc := hB c List.mem_cons_self
      have hv := valL_snoc ds c
      have hval : n + c % 128 * sc = (valL (ds ++ [c]) : Int) := by
        rw [hv, hn, hsc]
        have e : c % 128 = ((c.toNat % 128 : Nat) : Int) := by omega
        rw [e, Int.natCast_add, Int.natCast_mul, Int.mul_comm]
      by_cases hb : c > 127
      · rw [rvF_more hb] at h
        obtain ⟨q, hq, rfl⟩ := Option.map_eq_some_iff.1 h
        have h1 := ih (sc * 128) _ (ds ++ [c]) false l q (fun x hx => hB x (List.mem_cons_of_mem _ hx)) (big_app hd (by omega) (by omega)) (by simp) (by rw [hsc, List.length_append, List.length_singleton, Nat.pow_succ]; exact (Int.natCast_mul _ _).symm) hval hq
        simpa using h1
      · have hb' := hb
        by_cases hz : fst = false ∧ c = 0
        · rw [rvF_stop hb (Or.inl hz)] at h; cases h
        · by_cases hg : n + c % 128 * sc > 1000000000
          · rw [rvF_stop hb (Or.inr hg)] at h; cases h
          · rw [rvF_take hb hz hg] at h
            obtain rfl := Option.some.inj h
            simp only [List.take_succ_cons, List.take_zero]
            refine ⟨hval, (canon ds c hd hc.1 (by omega)).2 ?_⟩
            cases fst with
            | true => exact Or.inl (hf.1 rfl)
            | false => exact Or.inr (fun h0 => hz ⟨rfl, h0⟩)
theorem rvL_canon {l : List Int} {p : Int × Nat} (hB : IsB l) (h : rvL l = some p) : varN p.1.toNat = l.take p.2 := by
  have h1 := rvF_canon 5 1 0 [] true l p hB (by simp) (by simp) (by simp) (by simp [valL]) h
  simp only [List.nil_append] at h1
  rw [h1.1, Int.toNat_natCast]
  exact h1.2
theorem varN_len5 {n : Nat} (h : n ≤ 1000000000) : (varN n).length ≤ 5 := by
  by_cases h1 : n ≤ 127
  · rw [varN_small h1]; simp
  · rw [varN_big h1]
    by_cases h2 : n / 128 ≤ 127
    · rw [varN_small h2]; simp
    · rw [varN_big h2]
      by_cases h3 : n / 128 / 128 ≤ 127
      · rw [varN_small h3]; simp
      · rw [varN_big h3]
        by_cases h4 : n / 128 / 128 / 128 ≤ 127
        · rw [varN_small h4]; simp
        · rw [varN_big h4, varN_small (show n / 128 / 128 / 128 / 128 ≤ 127 by omega)]; simp
theorem varB_size5 {n : Nat} (h : n ≤ 1000000000) : (varB n).size ≤ 5 := by rw [varB, str_len]; exact varN_len5 h
/-- A number's own text is read. -/
theorem rvF_reads : ∀ (f : Nat) (sc n : Int) (ds : List Int) (m : Nat) (rest : List Int), sc = ((128 ^ ds.length : Nat) : Int) → n = (valL ds : Int) → (varN m).length ≤ f → valL (ds ++ varN m) ≤ 1000000000 →
    (ds = [] ∨ m ≠ 0) → rvF f sc n (decide (ds = [])) (varN m ++ rest) = some ((valL (ds ++ varN m) : Int), (varN m).length) := by
  intro f
  induction f with
  | zero => intro sc n ds m rest _ _ h; have := (varN_len m).1; omega
  | succ f ih =>
    intro sc n ds m rest hsc hn hl hb hz
    have key : ∀ c : Int, 0 ≤ c → n + c % 128 * sc = (valL (ds ++ [c]) : Int) := by
      intro c hc
      rw [valL_snoc ds c, hn, hsc]
      have e : c % 128 = ((c.toNat % 128 : Nat) : Int) := by omega
      rw [e, Int.natCast_add, Int.natCast_mul, Int.mul_comm]
    by_cases hm : m ≤ 127
    · rw [varN_small hm] at hb ⊢
      have hk := key m (by omega)
      simp only [List.cons_append, List.nil_append, List.length_singleton]
      rw [rvF_take (by omega) ?_ (by rw [hk]; omega), hk]
      rintro ⟨h1, h2⟩
      have h3 : ¬ ds = [] := by simpa using h1
      rcases hz with hz | hz
      · exact h3 hz
      · omega
    · rw [varN_big hm] at hl hb ⊢
      have hk := key ((m % 128 + 128 : Nat) : Int) (by omega)
      simp only [List.cons_append, List.length_cons] at hl ⊢
      rw [rvF_more (by omega), hk]
      have h1 := ih (sc * 128) (valL (ds ++ [((m % 128 + 128 : Nat) : Int)]) : Int) (ds ++ [((m % 128 + 128 : Nat) : Int)]) (m / 128) rest (by rw [hsc, List.length_append, List.length_singleton, Nat.pow_succ]; exact (Int.natCast_mul _ _).symm) rfl (by omega) (by simpa using hb) (Or.inr (by omega))
      have e : decide (ds ++ [((m % 128 + 128 : Nat) : Int)] = []) = false := decide_eq_false (by simp)
      rw [e] at h1
      rw [h1]
      simp
theorem rvL_reads {m : Nat} (h : m ≤ 1000000000) (rest : List Int) : rvL (varN m ++ rest) = some ((m : Int), (varN m).length) := by
  have h1 := rvF_reads 5 1 0 [] m rest (by simp) (by simp [valL]) (varN_len5 h) (by simpa [valL_varN] using h) (Or.inl rfl)
  simpa [rvL, valL_varN] using h1

end Go.Proofs.YtogifkjkbfdocaaGreatDoor.Base
