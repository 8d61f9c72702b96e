/- Plain words on snapshots that are read: no program in sight. -/
import Derived.Test.YtogifkjkbfdocaaGreatDoorBaseR
namespace Go.Proofs.YtogifkjkbfdocaaGreatDoor.Base
open Go.RowKit Go.Proofs.YtogifkjkbfdocaaGreatDoorW.PrintWords Go.Proofs.YtogifkjkbfdocaaGreatDoorW.PrintMore

/-- A short text at a cursor, as the program reads it, and as the reference does. -/
def curShI (s : ByteArray) (a : Int) (b : Bool) : ByteArray × Int × Bool := if b = true then (⟨#[]⟩, a, true) else if (pReadShort s a).2.2 = true then ((pReadShort s a).1, (pReadShort s a).2.1, false) else (⟨#[]⟩, a, true)
def curShS (s : ByteArray) (a : Int) (b : Bool) : ByteArray × Int × Bool := curTake s (curVar s a b).2.1 (curVar s a b).2.2 (curVar s a b).1
theorem curShI_bad (s : ByteArray) (a : Int) : curShI s a true = (⟨#[]⟩, a, true) := rfl
theorem curShS_bad (s : ByteArray) (a : Int) : curShS s a true = (⟨#[]⟩, a, true) := rfl
theorem curShI_ok {s : ByteArray} {a : Int} {b : Bool} (h : curOk s a) : curOk s (curShI s a b).2.1 := by
  unfold curShI
  split
  · exact h
  · split
    · rename_i h2
      by_cases h3 : (pReadVar s a).2.2 = true ∧ (pReadVar s a).1 ≤ 20000 ∧ (pReadVar s a).1 ≤ s.size - (pReadVar s a).2.1
      · have := pReadVar_ok s a h3.1
        rw [pReadShort_yes h3]
        unfold curOk at h ⊢
        simp only
        omega
      · rw [pReadShort_no h3] at h2; cases h2
    · exact h
theorem curVar_range (s : ByteArray) (a : Int) (b : Bool) : 0 ≤ (curVar s a b).1 ∧ (curVar s a b).1 ≤ 1000000000 := by
  unfold curVar
  split
  · exact ⟨Int.le_refl _, by show (0 : Int) ≤ 1000000000; decide⟩
  · split
    · rename_i h
      have := pReadVar_ok s a h
      exact ⟨this.2.1, this.2.2.1⟩
    · exact ⟨Int.le_refl _, by show (0 : Int) ≤ 1000000000; decide⟩
theorem curShS_ok {s : ByteArray} {a : Int} {b : Bool} (h : curOk s a) : curOk s (curShS s a b).2.1 := curTake_ok (curVar_ok h) (curVar_range s a b).1
theorem curShI_size (s : ByteArray) (a : Int) (b : Bool) : (curShI s a b).1.size ≤ s.size := by
  unfold curShI
  split
  · exact Nat.zero_le _
  · split
    · rename_i h2
      by_cases h3 : (pReadVar s a).2.2 = true ∧ (pReadVar s a).1 ≤ 20000 ∧ (pReadVar s a).1 ≤ s.size - (pReadVar s a).2.1
      · rw [pReadShort_yes h3, size_ext]; omega
      · rw [pReadShort_no h3] at h2; cases h2
    · exact Nat.zero_le _
theorem curShS_size (s : ByteArray) (a : Int) (b : Bool) : (curShS s a b).1.size ≤ s.size := by
  unfold curShS curTake
  split
  · exact Nat.zero_le _
  · split
    · exact Nat.zero_le _
    · rw [size_ext]; omega
/-- Where the text is not too long, both read the same, or both find that it is not there. -/
theorem curSh_cases {s : ByteArray} (hs : s.size ≤ 20000) (a : Int) : ((curShI s a false).2.2 = true ∧ (curShS s a false).2.2 = true) ∨
    ∃ l n, pReadVar s a = (l, n, true) ∧ (pReadVar s a).2.2 = true ∧ 0 ≤ l ∧ l ≤ s.size - n ∧ curShI s a false = (s.extract n.toNat (n + l).toNat, n + l, false) ∧ curShS s a false = (s.extract n.toNat (n + l).toNat, n + l, false) := by
  rcases curVar_cases s a with e | ⟨o, e⟩
  · left
    have o : ¬ (pReadVar s a).2.2 = true := by
      intro h
      unfold curVar at e
      rw [if_neg (by decide), if_pos h] at e
      have := congrArg (fun p : Int × Int × Bool => p.2.2) e
      cases this
    constructor
    · unfold curShI
      rw [if_neg (by decide), pReadShort_no (fun h => o h.1)]
      rfl
    · unfold curShS
      rw [e]
      rfl
  · have hk := pReadVar_ok s a o
    by_cases h : (pReadVar s a).1 ≤ s.size - (pReadVar s a).2.1
    · right
      refine ⟨(pReadVar s a).1, (pReadVar s a).2.1, by rw [← o], o, by omega, h, ?_, ?_⟩
      · unfold curShI
        rw [if_neg (by decide), pReadShort_yes ⟨o, by omega, h⟩]
        rfl
      · unfold curShS
        rw [e]
        unfold curTake
        rw [if_neg (by simp), if_neg (by simp only; omega)]
    · left
      constructor
      · unfold curShI
        rw [if_neg (by decide), pReadShort_no (fun q => h q.2.2)]
        rfl
      · unfold curShS
        rw [e]
        unfold curTake
        rw [if_neg (by simp), if_pos (by simp only; omega)]
def snapI (t : ByteArray) : Int × Int × List Int × ByteArray × Bool :=
  let u := pUnsealed t; let p1 := curVar u.1 0 (!u.2); let p2 := curVar u.1 p1.2.1 p1.2.2; let p3 := curShI u.1 p2.2.1 p2.2.2; let p4 := curShI u.1 p3.2.1 p3.2.2; let q := pReadConf p3.1
  if (!p4.2.2 && (p4.2.1 == (u.1.size : Int))) = true ∧ q.2 = true ∧ (0 ≤ p1.1 ∧ p1.1 ≤ 1000000) ∧ (0 ≤ p2.1 ∧ p2.1 ≤ 100000) ∧ ¬ (t.size : Int) > 20000 then (p1.1, p2.1, q.1, p4.1, true) else (0, 0, [], ⟨#[]⟩, false)
def snapS (t : ByteArray) : Int × Int × List Int × ByteArray × Bool :=
  let u := pUnsealed t; let p1 := curVar u.1 0 (!u.2); let p2 := curVar u.1 p1.2.1 p1.2.2; let p3 := curShS u.1 p2.2.1 p2.2.2; let q := pReadConf p3.1; let p4 := curShS u.1 p3.2.1 p3.2.2
  let z := pSnapText p1.1 p2.1 q.1 p4.1
  if p4.2.2 = true then (0, 0, [], ⟨#[]⟩, false) else if z.2 = true ∧ z.1 = t then (p1.1, p2.1, q.1, p4.1, true) else (0, 0, [], ⟨#[]⟩, false)
theorem sealB_inj {a b : ByteArray} (h : sealB a = sealB b) : a = b := by
  have hs := congrArg ByteArray.size h
  rw [sealB_size, sealB_size] at hs
  exact (app_inj h (by omega)).1
theorem confB_bytes (c : ByteArray) : confB (bytesOf c) = c := by
  unfold confB
  apply bytes_inj
  rw [bytes_str]
  · conv => rhs; rw [← List.map_id (bytesOf c)]
    apply List.map_congr_left
    intro x hx
    have := isB_bytes c x hx
    simp only [id_eq]
    omega
  · intro x hx
    rw [List.mem_map] at hx
    obtain ⟨y, hy, rfl⟩ := hx
    have := isB_bytes c y hy
    omega
theorem snap_same (t : ByteArray) : snapI t = snapS t := by
  unfold snapI snapS
  simp only
  by_cases hu : 4 ≤ t.size ∧ t.size ≤ 20004 ∧ t = sealB (t.extract 0 (t.size - 4))
  · rw [pUnsealed_yes hu]
    simp only [Bool.not_true]
    obtain ⟨s, hs⟩ : ∃ s, t.extract 0 (t.size - 4) = s := ⟨_, rfl⟩
    rw [hs] at hu ⊢
    have hss : s.size + 4 = t.size := by rw [← hs, size_ext]; omega
    have hs2 : s.size ≤ 20000 := by omega
    have hseal := hu.2.2
    have bad : ∀ (x1 x2 : Int) (a : Int), (let p3 := curShI s a true; let p4 := curShI s p3.2.1 p3.2.2; (!p4.2.2 && (p4.2.1 == (s.size : Int)))) = false := fun x1 x2 a => rfl
    rcases curVar_cases s 0 with e1 | ⟨o1, e1⟩
    · rw [e1]
      simp only [curVar_bad, curShI_bad, curShS_bad, Bool.not_true, Bool.false_and, Bool.false_eq_true, false_and, if_false, if_true]
    rw [e1]
    simp only
    rcases curVar_cases s (pReadVar s 0).2.1 with e2 | ⟨o2, e2⟩
    · rw [e2]
      simp only [curShI_bad, curShS_bad, Bool.not_true, Bool.false_and, Bool.false_eq_true, false_and, if_false, if_true]
    rw [e2]
    simp only
    obtain ⟨x1, n1, ex1⟩ : ∃ x n, pReadVar s 0 = (x, n, true) := ⟨_, _, by first | (rw [← o1]; done) | (rw [← o1]; rfl)⟩
    rw [ex1] at o2 ⊢
    simp only at o2 ⊢
    obtain ⟨x2, n2, ex2⟩ : ∃ x n, pReadVar s n1 = (x, n, true) := ⟨_, _, by first | (rw [← o2]; done) | (rw [← o2]; rfl)⟩
    rw [ex2]
    simp only
    rcases curSh_cases hs2 n2 with ⟨b1, b2⟩ | ⟨l3, n3, ex3, o3, h3, h3', i3, s3⟩
    · obtain ⟨c, a, bb, ei⟩ : ∃ c a b, curShI s n2 false = (c, a, b) := ⟨_, _, _, rfl⟩
      obtain ⟨c', a', bb', es⟩ : ∃ c a b, curShS s n2 false = (c, a, b) := ⟨_, _, _, rfl⟩
      rw [ei] at b1 ⊢
      rw [es] at b2 ⊢
      simp only at b1 b2
      subst b1 b2
      simp only [curShI_bad, curShS_bad, Bool.not_true, Bool.false_and, Bool.false_eq_true, false_and, if_false, if_true]
    rw [i3, s3]
    simp only
    rcases curSh_cases hs2 (n3 + l3) with ⟨b1, b2⟩ | ⟨l4, n4, ex4, o4, h4, h4', i4, s4⟩
    · obtain ⟨c, a, bb, ei⟩ : ∃ c a b, curShI s (n3 + l3) false = (c, a, b) := ⟨_, _, _, rfl⟩
      obtain ⟨c', a', bb', es⟩ : ∃ c a b, curShS s (n3 + l3) false = (c, a, b) := ⟨_, _, _, rfl⟩
      rw [ei] at b1 ⊢
      rw [es] at b2 ⊢
      simp only at b1 b2
      subst b1 b2
      simp only [Bool.not_true, Bool.false_and, Bool.false_eq_true, false_and, if_false, if_true]
    rw [i4, s4]
    simp only [Bool.not_false, Bool.true_and, beq_iff_eq, Bool.false_eq_true, if_false]
    have k1 := pReadVar_ok s 0 o1
    have k2 := pReadVar_ok s n1 o2
    have k3 := pReadVar_ok s n2 o3
    have k4 := pReadVar_ok s (n3 + l3) o4
    have v1 := readVar_text o1
    have v2 := readVar_text o2
    have v3 := readVar_text o3
    have v4 := readVar_text o4
    rw [ex1] at k1 v1
    rw [ex2] at k2 v2
    rw [ex3] at k3 v3
    rw [ex4] at k4 v4
    simp only at k1 k2 k3 k4 v1 v2 v3 v4
    obtain ⟨c, hc⟩ : ∃ c, s.extract n3.toNat (n3 + l3).toNat = c := ⟨_, rfl⟩
    obtain ⟨d, hd⟩ : ∃ c, s.extract n4.toNat (n4 + l4).toNat = c := ⟨_, rfl⟩
    have hcs : (c.size : Int) = l3 := by rw [← hc, size_ext]; omega
    have hds : (d.size : Int) = l4 := by rw [← hd, size_ext]; omega
    rw [hc, hd]
    have htext : snapIn x1 x2 c d = s.extract 0 (n4 + l4).toNat := by
      unfold snapIn
      rw [v1, v2, show c.size = l3.toNat by omega, show d.size = l4.toNat by omega, v3, v4, ← hc, ← hd, show (0 : Int).toNat = 0 from rfl,
        ext_ext _ _ _ _ (by omega) (by omega), ext_ext _ _ _ _ (by omega) (by omega), ext_ext _ _ _ _ (by omega) (by omega), ext_ext _ _ _ _ (by omega) (by omega), ext_ext _ _ _ _ (by omega) (by omega)]
    have hin : snapIn x1 x2 c d = s ↔ n4 + l4 = (s.size : Int) := by
      constructor
      · intro h
        have := congrArg ByteArray.size (htext.symm.trans h)
        rw [size_ext] at this
        omega
      · intro h
        rw [htext, h]
        apply bytes_inj
        rw [bytes_ext, List.drop_zero, Nat.sub_zero, show ((s.size : Int)).toNat = (bytesOf s).length by rw [bytes_len]; omega, List.take_length]
    by_cases hcf : pConfOk (bytesOf c) = true
    · rw [pReadConf_yes hcf]
      simp only [true_and]
      by_cases hok : snapOk x1 x2 (bytesOf c) d
      · rw [pSnapText_yes hok, confB_bytes]
        have hok' := hok
        unfold snapOk at hok'
        rw [confB_bytes] at hok'
        by_cases he : n4 + l4 = (s.size : Int)
        · have hse : sealB (snapIn x1 x2 c d) = t := by rw [hin.2 he]; exact hseal.symm
          have hz : ¬ (t.size : Int) > 20000 := by
            have := hok'.2.2.2.2
            rw [hin.2 he] at this
            omega
          rw [if_pos ⟨he, hok'.2.1, hok'.2.2.1, hz⟩, if_pos ⟨rfl, hse⟩]
        · have hse : ¬ sealB (snapIn x1 x2 c d) = t := fun h => he (hin.1 (sealB_inj (h.trans hseal)))
          rw [if_neg (fun h => he h.1), if_neg (fun h => hse h.2)]
      · rw [pSnapText_no hok]
        have hno : ¬ (n4 + l4 = (s.size : Int) ∧ (0 ≤ x1 ∧ x1 ≤ 1000000) ∧ (0 ≤ x2 ∧ x2 ≤ 100000) ∧ ¬ (t.size : Int) > 20000) := by
          rintro ⟨he, h1, h2, h3⟩
          apply hok
          unfold snapOk
          rw [confB_bytes]
          have hd2 : d.size ≤ 20000 := by omega
          refine ⟨hcf, h1, h2, hd2, ?_⟩
          rw [hin.2 he]
          omega
        rw [if_neg hno, if_neg (fun h => by simp at h)]
    · rw [pReadConf_no hcf]
      have hok : ¬ snapOk x1 x2 [] d := fun h => by
        have := h.1
        simp [pConfOk] at this
      rw [pSnapText_no hok]
      simp
  · rw [pUnsealed_no hu]
    simp only [Bool.not_false, curVar_bad, curShI_bad, curShS_bad, Bool.not_true, Bool.false_and, Bool.false_eq_true, false_and, if_false, if_true]
end Go.Proofs.YtogifkjkbfdocaaGreatDoor.Base
