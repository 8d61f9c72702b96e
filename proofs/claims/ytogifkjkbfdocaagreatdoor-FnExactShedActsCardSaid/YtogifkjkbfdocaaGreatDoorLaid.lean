/- What the listed variables of the library hold, and the program's Decimal and ReadDecimal over it (strconv.Itoa and strconv.Atoi by the shelf's contracts). -/
import Derived.Test.YtogifkjkbfdocaaGreatDoorShelf
import Derived.Test.YtogifkjkbfdocaaGreatDoorRows
import Derived.Test.YtogifkjkbfdocaaGreatDoorNumerals
import Derived.WalkKit
import Derived.ProofKit
import Derived.OpenShut
import Derived.LaidMore
import Derived.Lib.LaidTab
import Derived.Stop.LaidErr
import Derived.Stop.Joined
import Derived.Below
namespace Go.Proofs.YtogifkjkbfdocaaGreatDoor.Laid
open Go.ChangeShapes Go.WideShapes Go.ChangeAt Go.RowKit Go.Proofs.YtogifkjkbfdocaaGreatDoor.Numerals
set_option linter.unusedVariables false

def laid5 : List (String × DataW Unit) := [("math/bits.deBruijn32tab", Rows.laid_math_bits_deBruijn32tab), ("math/bits.deBruijn64tab", Rows.laid_math_bits_deBruijn64tab), ("internal/strconv.uint64pow10", Rows.laid_internal_strconv_uint64pow10), ("strconv.ErrRange", Rows.laid_strconv_ErrRange), ("strconv.ErrSyntax", Rows.laid_strconv_ErrSyntax)]
theorem own : ownKnob Tryz.prog.godebug = none := by kernel_rfl
theorem pow_data : (Rows.laid_internal_strconv_uint64pow10 : DataW Unit) = Lib.tabData .u64 Lib.pow10Tab := by rfl
theorem door_met (os : Os) (args : Array Value) : laidMetH Tryz.prog laid5 ((World.doorLaid Tryz.prog 2000 os).forCall (fun _ _ => 0) ⟨#[], args, []⟩).memory :=
  laidMetH_of_parts3 (fuel := 8) (laidMet_of_run' 8 (by kernel_rfl) (by kernel_rfl)) (by kernel_rfl) (by kernel_rfl)

/-- What a walk wants of the listed variables. -/
structure LaidW (W : World) : Prop where
  pow : Lib.TabIs Tryz.prog W "internal/strconv.uint64pow10" .u64 Lib.pow10Tab
  syn : ∃ tp p, W.var? Tryz.prog "strconv.ErrSyntax" = some #[.iface tp p]
  rng : ∃ tp p, W.var? Tryz.prog "strconv.ErrRange" = some #[.iface tp p]
theorem star : "*" ++ "errors.errorString" = "*errors.errorString" := by decide
theorem row_es (u : TypeId) (h : Tryz.prog.typeName? 3 u = some "*errors.errorString") : u = 193 :=
  typeName_ptr_named (nm := "errors.errorString") (by rw [star]; kernel_rfl) (by kernel_rfl) (by decide) u (by rw [star]; exact h)
theorem of_laid {W : World} (h : laidMetH Tryz.prog laid5 W) : LaidW W := by
  rw [MakeChecks.laidMetH_plain _ _ _ (by kernel_rfl)] at h
  have h2 := laidMet.tail (laidMet.tail h)
  have h3 := laidMet.tail h2
  have h4 := laidMet.tail h3
  rw [pow_data] at h2
  obtain ⟨a, s, hv, _⟩ := laid_sentinel h3 (g := 1) (ti := 148) (by kernel_rfl) (by kernel_rfl) Tryz.underlying148 row_es Tryz.underlying193 Tryz.underlying195 rfl rfl Tryz.underlying9 (by kernel_rfl) (by kernel_rfl)
  obtain ⟨a2, s2, hv2, _⟩ := laid_sentinel h4 (g := 0) (ti := 148) (by kernel_rfl) (by kernel_rfl) Tryz.underlying148 row_es Tryz.underlying193 Tryz.underlying195 rfl rfl Tryz.underlying9 (by kernel_rfl) (by kernel_rfl)
  exact ⟨Lib.tabIs_of_head (g := 2) (t := 188) (e := 176) (n := 20) (by kernel_rfl) (by kernel_rfl) (by kernel_rfl) (by kernel_rfl) (by kernel_rfl) (by kernel_rfl) h2, ⟨_, _, hv2⟩, ⟨_, _, hv⟩⟩

theorem var_later {P : Program} {n : String} {cs : Array Value} {w w' : World} (h : w.var? P n = some cs) (hb : Below w.heap.size w w') : w'.var? P n = some cs := by
  unfold World.var? at h ⊢
  obtain ⟨g, hg, h⟩ := Option.bind_eq_some_iff.mp h
  rw [hg, Option.bind_some]
  have hlt : g < w.heap.size := by
    rcases Nat.lt_or_ge g w.heap.size with h' | h'
    · exact h'
    · rw [Array.getElem?_eq_none h'] at h
      cases h
  rw [hb.block g hlt]
  exact h
theorem LaidW.later {w w' : World} (h : LaidW w) (hb : Below w.heap.size w w') : LaidW w' :=
  ⟨var_later h.pow hb, let ⟨tp, p, e⟩ := h.syn; ⟨tp, p, var_later e hb⟩, let ⟨tp, p, e⟩ := h.rng; ⟨tp, p, var_later e hb⟩⟩
theorem below_grow (w : World) (k : Nat) (os : Array Obj) : Below w.heap.size w (Go.Sort.grow (w.drewN k) os) := by
  refine ⟨rfl, rfl, rfl, ?_, fun j hj => ?_⟩
  · show w.heap.size ≤ (w.heap ++ os).size
    rw [Array.size_append]
    omega
  · show (w.heap ++ os)[j]? = w.heap[j]?
    rw [Array.getElem?_append_left hj]
theorem below_trans {w w1 w2 : World} (h1 : Below w.heap.size w w1) (h2 : Below w1.heap.size w1 w2) : Below w.heap.size w w2 :=
  ⟨h2.os.trans h1.os, h2.tape.trans h1.tape, h2.output.trans h1.output, Nat.le_trans h1.size h2.size, fun k hk => (h2.block k (Nat.lt_of_lt_of_le hk h1.size)).trans (h1.block k hk)⟩
theorem below_drewN (w : World) (k : Nat) : Below w.heap.size w (w.drewN k) := ⟨rfl, rfl, rfl, Nat.le_refl _, fun _ _ => rfl⟩
theorem below_bytes {w w' : World} {t5 : TypeId} (h : w' = w ∨ ∃ t, w' = Lib.bytesWorld w t5 t) : Below w.heap.size w w' := by
  rcases h with rfl | ⟨t, rfl⟩
  · exact Below.refl _ _
  · exact Lib.bytesWorld_below _ _ _

set_option maxHeartbeats 4000000 in
theorem impl_Decimal (n : Int) (h0 : -9223372036854775808 ≤ n) (h1 : n ≤ 9223372036854775807) (w : World) (hL : LaidW w) :
    Calls Tryz.prog 69 #[.int .i64 n] w fun e w' => e = .returned (.string ⟨(Lib.itoa n).toArray⟩) ∧ Below w.heap.size w w' := by
  have ht := hL.pow
  clear hL
  go_enter Tryz.func69, Tryz.ntmps69
  go_wp2_with (go_at_call 113; refine (Tryz.strconv_Itoa n h0 h1 _ ht).mono ?_; rintro e w' ⟨rfl, k, os, rfl⟩)
  go_ret
  exact ⟨rfl, below_grow _ _ _⟩

set_option maxHeartbeats 4000000 in
theorem impl_within (a b c : Int) (w : World) :
    Calls Tryz.prog 82 #[.int .i64 a, .int .i64 b, .int .i64 c] w fun e w' => e = .returned (.bool (decide (b ≤ a) && decide (a ≤ c))) ∧ Below w.heap.size w w' := by
  by_cases c4 : b ≤ a
  · have c4b0 : decide (b ≤ a) = true := decide_eq_true c4
    go_enter Tryz.func82, Tryz.ntmps82
    go_wp2
    go_ret
    exact ⟨by simp [*], by repeat (first | exact Below.refl _ _ | apply below_drew1)⟩
  · have c4b0 : decide (b ≤ a) = false := decide_eq_false c4
    go_enter Tryz.func82, Tryz.ntmps82
    go_wp2
    go_ret
    exact ⟨by simp [*], by repeat (first | exact Below.refl _ _ | apply below_drew1)⟩

/-- What strconv.Atoi answers, in one statement: an int and no error, or an error. -/
theorem atoi (s : ByteArray) (hs : s.size ≤ 281474976710656) (w : World) (hL : LaidW w) :
    (∃ v, Lib.atoiAll s.data.toList = .ok v ∧ -9223372036854775808 ≤ v ∧ v ≤ 9223372036854775807 ∧ Calls Tryz.prog 125 #[.string s] w fun e w' => e = .returned (.tuple #[.int .i64 v, .nilIface]) ∧ Below w.heap.size w w') ∨
    ((∀ v, Lib.atoiAll s.data.toList ≠ .ok v) ∧ ∃ (v : Int) (t : TypeId), Calls Tryz.prog 125 #[.string s] w fun e w' => ∃ p, e = .returned (.tuple #[.int .i64 v, .iface t p]) ∧ Below w.heap.size w w') := by
  cases h : Lib.atoiAll s.data.toList
  · obtain ⟨b0, b1⟩ := Lib.atoiAll_bounds h
    exact Or.inl ⟨_, rfl, b0, b1, (Tryz.strconv_Atoi_ok s (by omega) _ h w).mono fun e w' ⟨he, hw⟩ => ⟨he, below_bytes hw⟩⟩
  · obtain ⟨tp, p, hv⟩ := hL.syn
    exact Or.inr ⟨fun v e => (by cases e), _, _, (Tryz.strconv_Atoi_syntax_var s hs h tp p w hv).mono fun e w' ⟨N, he, _, _, hb⟩ => ⟨_, he, hb⟩⟩
  · obtain ⟨tp, p, hv⟩ := hL.rng
    exact Or.inr ⟨fun v e => (by cases e), _, _, (Tryz.strconv_Atoi_range_var s hs h tp p w hv).mono fun e w' ⟨N, he, _, _, hb⟩ => ⟨_, he, hb⟩⟩

set_option maxHeartbeats 4000000 in
theorem impl_ReadDecimal (s : ByteArray) (hs : s.size ≤ 281474976710656) (w : World) (hL : LaidW w) :
    Calls Tryz.prog 81 #[.string s] w fun e w' => e = .returned (.tuple #[.int .i64 (pDec s).1, .bool (pDec s).2]) ∧ Below w.heap.size w w' := by
  rcases atoi s hs w hL with ⟨v, hv, b0, b1, hA⟩ | ⟨hno, v, t, hA⟩
  · by_cases c : 0 ≤ v ∧ v ≤ 1000000000
    · have cw : (decide (0 ≤ v) && decide (v ≤ 1000000000)) = true := by simp [c.1, c.2]
      have W1 := fun W => impl_within v 0 1000000000 W
      rw [cw] at W1
      have D1 := fun W (h : LaidW W) => impl_Decimal v b0 b1 W h
      by_cases d : Lib.itoa v = s.data.toList
      · obtain ⟨hd, hv2⟩ := isDec_of c.1 c.2 d
        rw [pDec_yes hd, hv2]
        have d1 : (⟨(Lib.itoa v).toArray⟩ : ByteArray) = s := by rw [d]
        rw [d1] at D1
        clear c cw d d1 hd hv2 b0 b1
        go_enter Tryz.func81, Tryz.ntmps81
        go_wp2_with (first
          | (go_at_call 125; refine hA.mono ?_; rintro e w1 ⟨rfl, hb1⟩)
          | (go_at_call 82; refine (W1 _).mono ?_; rintro e w2 ⟨rfl, hb2⟩)
          | (go_at_call 69; refine (D1 _ ((hL.later hb1).later hb2)).mono ?_; rintro e w3 ⟨rfl, hb3⟩))
        go_ret2
        exact ⟨rfl, below_trans (below_trans hb1 hb2) hb3⟩
      · have hd : ¬ isDec s.data.toList := fun h => by
          have e1 := isDec_atoi h
          rw [hv] at e1
          injection e1 with e1
          exact d (by rw [e1]; exact isDec_itoa h)
        rw [pDec_no hd]
        have d1 : ((⟨(Lib.itoa v).toArray⟩ : ByteArray).toList == s.toList) = false := beq_eq_false_iff_ne.mpr (fun e => d (by rw [← ByteArray.toList_inj_ e]))
        obtain ⟨x, hx⟩ : ∃ x, x = (⟨(Lib.itoa v).toArray⟩ : ByteArray) := ⟨_, rfl⟩
        rw [← hx] at D1 d1
        have d2 : (x.toList != s.toList) = true := by rw [bne, d1]; rfl
        clear c cw d hd b0 b1 hx
        go_enter Tryz.func81, Tryz.ntmps81
        go_wp2_with (first
          | (go_at_call 125; refine hA.mono ?_; rintro e w1 ⟨rfl, hb1⟩)
          | (go_at_call 82; refine (W1 _).mono ?_; rintro e w2 ⟨rfl, hb2⟩)
          | (go_at_call 69; refine (D1 _ ((hL.later hb1).later hb2)).mono ?_; rintro e w3 ⟨rfl, hb3⟩))
        go_ret2
        exact ⟨rfl, below_trans (below_trans hb1 hb2) hb3⟩
    · have cw : (decide (0 ≤ v) && decide (v ≤ 1000000000)) = false := by
        simp only [Bool.and_eq_false_iff, decide_eq_false_iff_not]
        omega
      have W1 := fun W => impl_within v 0 1000000000 W
      rw [cw] at W1
      have hd : ¬ isDec s.data.toList := fun h => by
        have e1 := isDec_atoi h
        rw [hv] at e1
        injection e1 with e1
        have := h.2.1
        omega
      rw [pDec_no hd]
      clear c cw hd b0 b1
      go_enter Tryz.func81, Tryz.ntmps81
      go_wp2_with (first
        | (go_at_call 125; refine hA.mono ?_; rintro e w1 ⟨rfl, hb1⟩)
        | (go_at_call 82; refine (W1 _).mono ?_; rintro e w2 ⟨rfl, hb2⟩))
      go_ret2
      exact ⟨rfl, below_trans hb1 hb2⟩
  · have hd : ¬ isDec s.data.toList := fun h => hno _ (isDec_atoi h)
    rw [pDec_no hd]
    clear hd hno
    go_enter Tryz.func81, Tryz.ntmps81
    go_wp2_with (go_at_call 125; refine hA.mono ?_; rintro e w1 ⟨p, rfl, hb1⟩)
    go_ret2
    exact ⟨rfl, hb1⟩
end Go.Proofs.YtogifkjkbfdocaaGreatDoor.Laid
