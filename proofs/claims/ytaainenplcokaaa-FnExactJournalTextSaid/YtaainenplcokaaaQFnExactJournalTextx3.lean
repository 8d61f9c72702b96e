/- Written by the kit's print.py, called by our own print2.sh with one import more; not by print.sh. -/
import Derived.Test.YtaainenplcokaaaQFnExactJournalTextx0
import Derived.Test.YtaainenplcokaaaQFnExactJournalTextx1
import Derived.Test.YtaainenplcokaaaQFnExactJournalTextx2
namespace Go.Proofs.Ytaainenplcokaaa.QFnExactJournalText
open Go.RowKit Go.Proofs.YtaainenplcokaaaW.PrintWords Go.Proofs.YtaainenplcokaaaW.PrintLast Go.Proofs.YtaainenplcokaaaW.PrintMore
attribute [local go_sem] max2_int min2_int max_two min_two max_three min_three max_four min_four   -- for this text's walks alone
set_option linter.unusedVariables false
set_option linter.unusedSimpArgs false

/-! ### spec_Frame: function 134 -/
def spec_Frame.f (k : Nat) (a0 : ByteArray) : Option (ByteArray × Bool) := (spec_l01In.f (a0.size : Int) 1 9000).bind fun t165 => (if t165 = true then ((spec_l01Var.f k (a0.size : Int)).bind fun t166 => ((spec_SumOf.f k a0).bind fun t167 => ((spec_l02Four.f t167).bind fun t168 => (if t166.size + t168.size ≤ 9223372036854775807 then (if (t166 ++ t168).size + a0.size ≤ 9223372036854775807 then (some ((t166 ++ t168) ++ a0, true)) else (none)) else (none))))) else (some ((⟨#[]⟩ : ByteArray), false)))
theorem spec_Frame.mono : ∀ a0 k, LeO (spec_Frame.f k a0) (spec_Frame.f (k + 1) a0) := by
  intro a0 k
  unfold spec_Frame.f
  repeat' first
      | (with_reducible exact spec_SumOf.mono _ _)
      | (with_reducible exact spec_l01Var.mono _ _)
      | (with_reducible exact LeO.refl _)
      | (with_reducible exact LeO.none _)
      | (with_reducible refine LeO.ite ?_ ?_)
      | (with_reducible refine LeO.bind ?_ (fun _ => ?_))
      | exact spec_SumOf.mono _ _
      | exact spec_l01Var.mono _ _
      | exact LeO.none _
      | refine LeO.ite ?_ ?_
      | refine LeO.bind ?_ (fun _ => ?_)
set_option maxHeartbeats 8000000 in
set_option maxRecDepth 100000 in
theorem spec_Frame.calls (k : Nat) (a0 : ByteArray) (r1 : ByteArray) (r2 : Bool) (w : World) (h : spec_Frame.f k a0 = some (r1, r2)) :
    Calls Try.prog 134 #[.string a0] w fun e w' => e = .returned (.tuple #[.string r1, .bool r2]) ∧ Below w.heap.size w w' := by
  have HB := Aside0.mk (Below.refl w.heap.size w)
  have H : ((spec_l01In.f (a0.size : Int) 1 9000).bind fun t165 => (if t165 = true then ((spec_l01Var.f k (a0.size : Int)).bind fun t166 => ((spec_SumOf.f k a0).bind fun t167 => ((spec_l02Four.f t167).bind fun t168 => (if t166.size + t168.size ≤ 9223372036854775807 then (if (t166 ++ t168).size + a0.size ≤ 9223372036854775807 then (some ((t166 ++ t168) ++ a0, true)) else (none)) else (none))))) else (some ((⟨#[]⟩ : ByteArray), false)))) = some (r1, r2) := h
  clear h
  replace H := Option.bind_eq_some_iff.mp H
  obtain ⟨t165, A20, H⟩ := H
  replace H : (if t165 = true then ((spec_l01Var.f k (a0.size : Int)).bind fun t166 => ((spec_SumOf.f k a0).bind fun t167 => ((spec_l02Four.f t167).bind fun t168 => (if t166.size + t168.size ≤ 9223372036854775807 then (if (t166 ++ t168).size + a0.size ≤ 9223372036854775807 then (some ((t166 ++ t168) ++ a0, true)) else (none)) else (none))))) else (some ((⟨#[]⟩ : ByteArray), false))) = some (r1, r2) := H
  have A2 := Aside0.mk A20
  clear A20
  by_cases c3 : t165 = true
  · subst c3
    have H1 : ((spec_l01Var.f k (a0.size : Int)).bind fun t166 => ((spec_SumOf.f k a0).bind fun t167 => ((spec_l02Four.f t167).bind fun t168 => (if t166.size + t168.size ≤ 9223372036854775807 then (if (t166 ++ t168).size + a0.size ≤ 9223372036854775807 then (some ((t166 ++ t168) ++ a0, true)) else (none)) else (none))))) = some (r1, r2) := by rw [if_pos rfl] at H; exact H
    clear H
    have H := H1
    clear H1
    replace H := Option.bind_eq_some_iff.mp H
    obtain ⟨t166, A40, H⟩ := H
    replace H : ((spec_SumOf.f k a0).bind fun t167 => ((spec_l02Four.f t167).bind fun t168 => (if t166.size + t168.size ≤ 9223372036854775807 then (if (t166 ++ t168).size + a0.size ≤ 9223372036854775807 then (some ((t166 ++ t168) ++ a0, true)) else (none)) else (none)))) = some (r1, r2) := H
    have A4 := Aside0.mk A40
    clear A40
    replace H := Option.bind_eq_some_iff.mp H
    obtain ⟨t167, A50, H⟩ := H
    replace H : ((spec_l02Four.f t167).bind fun t168 => (if t166.size + t168.size ≤ 9223372036854775807 then (if (t166 ++ t168).size + a0.size ≤ 9223372036854775807 then (some ((t166 ++ t168) ++ a0, true)) else (none)) else (none))) = some (r1, r2) := H
    have A5 := Aside0.mk A50
    clear A50
    replace H := Option.bind_eq_some_iff.mp H
    obtain ⟨t168, A60, H⟩ := H
    replace H : (if t166.size + t168.size ≤ 9223372036854775807 then (if (t166 ++ t168).size + a0.size ≤ 9223372036854775807 then (some ((t166 ++ t168) ++ a0, true)) else (none)) else (none)) = some (r1, r2) := H
    have A6 := Aside0.mk A60
    clear A60
    by_cases c7 : t166.size + t168.size ≤ 9223372036854775807
    · rw [if_pos c7] at H
      have c7b0 := eq_true c7
      have c7b1 : decide (t166.size + t168.size ≤ 9223372036854775807) = true := decide_eq_true c7
      try have c7b2 : (9223372036854775807 < t166.size + t168.size) = False := eq_false (Nat.not_lt.2 c7)
      by_cases c8 : (t166 ++ t168).size + a0.size ≤ 9223372036854775807
      · rw [if_pos c8] at H
        have c8b0 := eq_true c8
        have c8b1 : decide ((t166 ++ t168).size + a0.size ≤ 9223372036854775807) = true := decide_eq_true c8
        try have c8b3 : (9223372036854775807 < t166.size + t168.size + a0.size) = False := eq_false (by have h_ := c8; rw [Nat.not_lt]; simp only [ByteArray.size_append] at h_; first | exact h_ | (simp at h_; omega) | omega)
        try have c8b2 : (9223372036854775807 < (t166 ++ t168).size + a0.size) = False := eq_false (Nat.not_lt.2 c8)
        simp only [Option.some.injEq, Prod.mk.injEq] at H
        obtain ⟨rfl, rfl⟩ := H
        go_enter Try.func134, Try.ntmps134
        go_wp2_with (first | ((with_reducible refine gate_callee (f := 113) rfl ?_); refine goesL_ (some 6) rfl rfl Try.func113 (by kernel_rfl) rfl #[.int .i64 (a0.size : Int), .int .i64 1, .int .i64 9000] rfl (by (try simp only [List.map_toArray, List.map_cons, List.map_nil]); first | done | rfl | (simp only [List.length_drop, List.length_take]; rfl)) ?_; (with_reducible refine (spec_l01In.calls (a0.size : Int) 1 9000 true _ A2.out).mono ?_); rintro e w' ⟨rfl, ⟨nd, rfl⟩⟩; refine ⟨_, rfl, ?_⟩) | ((with_reducible refine gate_callee (f := 135) rfl ?_); refine goesL_ (some 10) rfl rfl Try.func135 (by kernel_rfl) rfl #[.int .i64 (a0.size : Int)] rfl (by (try simp only [List.map_toArray, List.map_cons, List.map_nil]); first | done | rfl | (simp only [List.length_drop, List.length_take]; rfl)) ?_; (with_reducible refine (spec_l01Var.calls k (a0.size : Int) t166 _ A4.out).mono ?_); rintro e w9 ⟨rfl, hb⟩; refine ⟨_, rfl, ?_⟩; have n0_ := Aside0.mk (below_step (by repeat (first | (with_reducible first | exact HB.out | apply below_alloc | apply pw_below_drewN | apply below_drew1) | exact HB.out)) hb); clear HB; have HB := n0_; clear n0_; (try clear hb); (try clear hb2); (try clear hk); (try clear hi)) | ((with_reducible refine gate_callee (f := 160) rfl ?_); refine goesL_ (some 12) rfl rfl Try.func160 (by kernel_rfl) rfl #[.string a0] rfl (by (try simp only [List.map_toArray, List.map_cons, List.map_nil]); first | done | rfl | (simp only [List.length_drop, List.length_take]; rfl)) ?_; (with_reducible refine (spec_SumOf.calls k a0 t167 _ A5.out).mono ?_); rintro e w' ⟨rfl, ⟨nd, rfl⟩⟩; refine ⟨_, rfl, ?_⟩) | ((with_reducible refine gate_callee (f := 159) rfl ?_); refine goesL_ (some 13) rfl rfl Try.func159 (by kernel_rfl) rfl #[.int .u32 t167] rfl (by (try simp only [List.map_toArray, List.map_cons, List.map_nil]); first | done | rfl | (simp only [List.length_drop, List.length_take]; rfl)) ?_; (with_reducible refine (spec_l02Four.calls t167 t168 _ A6.out).mono ?_); rintro e w10 ⟨rfl, hb⟩; refine ⟨_, rfl, ?_⟩; have n0_ := Aside0.mk (below_step (by repeat (first | (with_reducible first | exact HB.out | apply below_alloc | apply pw_below_drewN | apply below_drew1) | exact HB.out)) hb); clear HB; have HB := n0_; clear n0_; (try clear hb); (try clear hb2); (try clear hk); (try clear hi)))
        go_ret2
        exact ⟨by first | rfl | (simp [errW_none, errW_some] <;> rfl) | (simp [*, errW_none, errW_some] <;> rfl), by repeat (first | (with_reducible first | exact HB.out | apply below_alloc | apply pw_below_drewN | apply below_drew1) | exact HB.out)⟩
      · rw [if_neg c8] at H
        exact absurd H (by simp)
    · rw [if_neg c7] at H
      exact absurd H (by simp)
  · replace c3 := Bool.eq_false_iff.mpr c3
    subst c3
    have H1 : (some ((⟨#[]⟩ : ByteArray), false)) = some (r1, r2) := by rw [if_neg (show ¬ (false = true) by decide)] at H; exact H
    clear H
    have H := H1
    clear H1
    simp only [Option.some.injEq, Prod.mk.injEq] at H
    obtain ⟨rfl, rfl⟩ := H
    go_enter Try.func134, Try.ntmps134
    go_wp2_with (first | ((with_reducible refine gate_callee (f := 113) rfl ?_); refine goesL_ (some 6) rfl rfl Try.func113 (by kernel_rfl) rfl #[.int .i64 (a0.size : Int), .int .i64 1, .int .i64 9000] rfl (by (try simp only [List.map_toArray, List.map_cons, List.map_nil]); first | done | rfl | (simp only [List.length_drop, List.length_take]; rfl)) ?_; (with_reducible refine (spec_l01In.calls (a0.size : Int) 1 9000 false _ A2.out).mono ?_); rintro e w' ⟨rfl, ⟨nd, rfl⟩⟩; refine ⟨_, rfl, ?_⟩))
    go_ret2
    exact ⟨by first | rfl | (simp [errW_none, errW_some] <;> rfl) | (simp [*, errW_none, errW_some] <;> rfl), by repeat (first | (with_reducible first | exact HB.out | apply below_alloc | apply pw_below_drewN | apply below_drew1) | exact HB.out)⟩

/-! ### spec_l07Hard: function 136 -/
def spec_l07Hard.f (k : Nat) (a0 : Int) (a1 : Int) : Option (ByteArray) := (spec_l01Var.f k a0).bind fun t169 => (if 1 + t169.size ≤ 9223372036854775807 then ((spec_l01Var.f k a1).bind fun t170 => (if ((⟨#[72]⟩ : ByteArray) ++ t169).size + t170.size ≤ 9223372036854775807 then ((spec_Frame.f k (((⟨#[72]⟩ : ByteArray) ++ t169) ++ t170)).bind fun bt171 => (some bt171.1)) else (none))) else (none))
theorem spec_l07Hard.mono : ∀ a0 a1 k, LeO (spec_l07Hard.f k a0 a1) (spec_l07Hard.f (k + 1) a0 a1) := by
  intro a0 a1 k
  unfold spec_l07Hard.f
  repeat' first
      | (with_reducible exact spec_Frame.mono _ _)
      | (with_reducible exact spec_l01Var.mono _ _)
      | (with_reducible exact LeO.refl _)
      | (with_reducible exact LeO.none _)
      | (with_reducible refine LeO.ite ?_ ?_)
      | (with_reducible refine LeO.bind ?_ (fun _ => ?_))
      | exact spec_Frame.mono _ _
      | exact spec_l01Var.mono _ _
      | exact LeO.none _
      | refine LeO.ite ?_ ?_
      | refine LeO.bind ?_ (fun _ => ?_)
set_option maxHeartbeats 8000000 in
set_option maxRecDepth 100000 in
theorem spec_l07Hard.calls (k : Nat) (a0 : Int) (a1 : Int) (r : ByteArray) (w : World) (h : spec_l07Hard.f k a0 a1 = some r) :
    Calls Try.prog 136 #[.int .i64 a0, .int .i64 a1] w fun e w' => e = .returned (.string r) ∧ Below w.heap.size w w' := by
  have HB := Aside0.mk (Below.refl w.heap.size w)
  have H : ((spec_l01Var.f k a0).bind fun t169 => (if 1 + t169.size ≤ 9223372036854775807 then ((spec_l01Var.f k a1).bind fun t170 => (if ((⟨#[72]⟩ : ByteArray) ++ t169).size + t170.size ≤ 9223372036854775807 then ((spec_Frame.f k (((⟨#[72]⟩ : ByteArray) ++ t169) ++ t170)).bind fun bt171 => (some bt171.1)) else (none))) else (none))) = some r := h
  clear h
  replace H := Option.bind_eq_some_iff.mp H
  obtain ⟨t169, A30, H⟩ := H
  replace H : (if 1 + t169.size ≤ 9223372036854775807 then ((spec_l01Var.f k a1).bind fun t170 => (if ((⟨#[72]⟩ : ByteArray) ++ t169).size + t170.size ≤ 9223372036854775807 then ((spec_Frame.f k (((⟨#[72]⟩ : ByteArray) ++ t169) ++ t170)).bind fun bt171 => (some bt171.1)) else (none))) else (none)) = some r := H
  have A3 := Aside0.mk A30
  clear A30
  by_cases c4 : 1 + t169.size ≤ 9223372036854775807
  · rw [if_pos c4] at H
    have c4b0 := eq_true c4
    have c4b1 : decide (1 + t169.size ≤ 9223372036854775807) = true := decide_eq_true c4
    try have c4b2 : (9223372036854775807 < 1 + t169.size) = False := eq_false (Nat.not_lt.2 c4)
    replace H := Option.bind_eq_some_iff.mp H
    obtain ⟨t170, A50, H⟩ := H
    replace H : (if ((⟨#[72]⟩ : ByteArray) ++ t169).size + t170.size ≤ 9223372036854775807 then ((spec_Frame.f k (((⟨#[72]⟩ : ByteArray) ++ t169) ++ t170)).bind fun bt171 => (some bt171.1)) else (none)) = some r := H
    have A5 := Aside0.mk A50
    clear A50
    by_cases c6 : ((⟨#[72]⟩ : ByteArray) ++ t169).size + t170.size ≤ 9223372036854775807
    · rw [if_pos c6] at H
      have c6b0 := eq_true c6
      have c6b1 : decide (((⟨#[72]⟩ : ByteArray) ++ t169).size + t170.size ≤ 9223372036854775807) = true := decide_eq_true c6
      try have c6b3 : (9223372036854775807 < 1 + t169.size + t170.size) = False := eq_false (by have h_ := c6; rw [Nat.not_lt]; simp only [ByteArray.size_append] at h_; first | exact h_ | (simp at h_; omega) | omega)
      try have c6b2 : (9223372036854775807 < ((⟨#[72]⟩ : ByteArray) ++ t169).size + t170.size) = False := eq_false (Nat.not_lt.2 c6)
      replace H := Option.bind_eq_some_iff.mp H
      obtain ⟨⟨t171, t172⟩, A70, H⟩ := H
      replace H : (some t171) = some r := H
      have A7 := Aside0.mk A70
      clear A70
      obtain rfl := Option.some.inj H
      go_enter Try.func136, Try.ntmps136
      go_wp2_with (first | ((with_reducible refine gate_callee (f := 135) rfl ?_); refine goesL_ (some 9) rfl rfl Try.func135 (by kernel_rfl) rfl #[.int .i64 a0] rfl (by (try simp only [List.map_toArray, List.map_cons, List.map_nil]); first | done | rfl | (simp only [List.length_drop, List.length_take]; rfl)) ?_; (with_reducible refine (spec_l01Var.calls k a0 t169 _ A3.out).mono ?_); rintro e w8 ⟨rfl, hb⟩; refine ⟨_, rfl, ?_⟩; have n0_ := Aside0.mk (below_step (by repeat (first | (with_reducible first | exact HB.out | apply below_alloc | apply pw_below_drewN | apply below_drew1) | exact HB.out)) hb); clear HB; have HB := n0_; clear n0_; (try clear hb); (try clear hb2); (try clear hk); (try clear hi)) | ((with_reducible refine gate_callee (f := 135) rfl ?_); refine goesL_ (some 12) rfl rfl Try.func135 (by kernel_rfl) rfl #[.int .i64 a1] rfl (by (try simp only [List.map_toArray, List.map_cons, List.map_nil]); first | done | rfl | (simp only [List.length_drop, List.length_take]; rfl)) ?_; (with_reducible refine (spec_l01Var.calls k a1 t170 _ A5.out).mono ?_); rintro e w9 ⟨rfl, hb⟩; refine ⟨_, rfl, ?_⟩; have n0_ := Aside0.mk (below_step (by repeat (first | (with_reducible first | exact HB.out | apply below_alloc | apply pw_below_drewN | apply below_drew1) | exact HB.out)) hb); clear HB; have HB := n0_; clear n0_; (try clear hb); (try clear hb2); (try clear hk); (try clear hi)) | ((with_reducible refine gate_callee (f := 134) rfl ?_); refine goesL_ (some 14) rfl rfl Try.func134 (by kernel_rfl) rfl #[.string (((⟨#[72]⟩ : ByteArray) ++ t169) ++ t170)] rfl (by (try simp only [List.map_toArray, List.map_cons, List.map_nil]); first | done | rfl | (simp only [List.length_drop, List.length_take]; rfl)) ?_; (with_reducible refine (spec_Frame.calls k (((⟨#[72]⟩ : ByteArray) ++ t169) ++ t170) t171 t172 _ A7.out).mono ?_); rintro e w10 ⟨rfl, hb⟩; refine ⟨_, rfl, ?_⟩; have n0_ := Aside0.mk (below_step (by repeat (first | (with_reducible first | exact HB.out | apply below_alloc | apply pw_below_drewN | apply below_drew1) | exact HB.out)) hb); clear HB; have HB := n0_; clear n0_; (try clear hb); (try clear hb2); (try clear hk); (try clear hi)))
      go_ret
      exact ⟨by first | rfl | (simp [errW_none, errW_some] <;> rfl) | (simp [*, errW_none, errW_some] <;> rfl), by repeat (first | (with_reducible first | exact HB.out | apply below_alloc | apply pw_below_drewN | apply below_drew1) | exact HB.out)⟩
    · rw [if_neg c6] at H
      exact absurd H (by simp)
  · rw [if_neg c4] at H
    exact absurd H (by simp)

end Go.Proofs.Ytaainenplcokaaa.QFnExactJournalText
