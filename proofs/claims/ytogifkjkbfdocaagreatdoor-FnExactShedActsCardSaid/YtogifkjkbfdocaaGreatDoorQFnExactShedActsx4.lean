/- Written by the kit's print.py, called by our own print2.sh with one import more; not by print.sh. -/
import Derived.Test.YtogifkjkbfdocaaGreatDoorQFnExactShedActsx0
import Derived.Test.YtogifkjkbfdocaaGreatDoorQFnExactShedActsx1
import Derived.Test.YtogifkjkbfdocaaGreatDoorQFnExactShedActsx2
import Derived.Test.YtogifkjkbfdocaaGreatDoorQFnExactShedActsx3
namespace Go.Proofs.YtogifkjkbfdocaaGreatDoor.QFnExactShedActs
open Go.RowKit Go.Proofs.YtogifkjkbfdocaaGreatDoorW.PrintWords Go.Proofs.YtogifkjkbfdocaaGreatDoorW.PrintLast Go.Proofs.YtogifkjkbfdocaaGreatDoorW.PrintMore
attribute [local go_sem] max2_int min2_int max_two min_two max_three min_three max_four min_four   -- for this text's walks alone
open Go.Proofs.YtogifkjkbfdocaaGreatDoor.Short
set_option linter.unusedVariables false
set_option linter.unusedSimpArgs false

/-! ### spec_SnapText: function 56 -/
def spec_SnapText.j0 : Nat → ByteArray → Bool → Int → Int → List Int → ByteArray → Option (ByteArray × Bool)
 | 0, _, _, _, _, _, _ => none
 | k + 1, x4, x32, x152000, x152001, x152002, x152003 => if x32 = true then (some ((⟨#[]⟩ : ByteArray), false)) else ((spec_l01Var.f k x152000).bind fun t156 => ((spec_l01Var.f k x152001).bind fun t157 => (if t156.size + t157.size ≤ 9223372036854775807 then ((spec_l05Short.f k x4).bind fun t158 => (if (t156 ++ t157).size + t158.size ≤ 9223372036854775807 then ((spec_l05Short.f k x152003).bind fun t159 => (if ((t156 ++ t157) ++ t158).size + t159.size ≤ 9223372036854775807 then (if (wrap64 (((((t156 ++ t157) ++ t158) ++ t159).size : Int) + 4)) > 20000 then (some ((⟨#[]⟩ : ByteArray), false)) else ((spec_Sealed.f k (((t156 ++ t157) ++ t158) ++ t159)).bind fun bt160 => (some (bt160.1, bt160.2)))) else (none))) else (none))) else (none))))
def spec_SnapText.f (k : Nat) (a0_0 : Int) (a0_1 : Int) (l0_2 : List Int) (a0_3 : ByteArray) : Option (ByteArray × Bool) := (spec_ConfText.f k l0_2).bind fun bt152 => (if bt152.2 = true then ((spec_l01In.f a0_0 0 1000000).bind fun t154 => (if t154 = true then ((spec_l01In.f a0_1 0 100000).bind fun t155 => (if t155 = true then (spec_SnapText.j0 k bt152.1 (decide ((a0_3.size : Int) > 20000)) a0_0 a0_1 l0_2 a0_3) else (spec_SnapText.j0 k bt152.1 true a0_0 a0_1 l0_2 a0_3))) else (spec_SnapText.j0 k bt152.1 true a0_0 a0_1 l0_2 a0_3))) else (spec_SnapText.j0 k bt152.1 true a0_0 a0_1 l0_2 a0_3))
theorem spec_SnapText.mono_l : ∀ k, (∀ y0 y1 y2 y3 y4 y5, LeO (spec_SnapText.j0 k y0 y1 y2 y3 y4 y5) (spec_SnapText.j0 (k + 1) y0 y1 y2 y3 y4 y5))
 | 0 => fun _ _ _ _ _ _ r h => by simp [spec_SnapText.j0] at h
 | k + 1 => by
  have ih0 := spec_SnapText.mono_l k
  ·intro y0 y1 y2 y3 y4 y5
   unfold spec_SnapText.j0
   repeat' first
   | (with_reducible exact ih0 _ _ _ _ _ _)
   | (with_reducible exact spec_ConfText.mono _ _)
   | (with_reducible exact spec_Sealed.mono _ _)
   | (with_reducible exact spec_l01Var.mono _ _)
   | (with_reducible exact spec_l05Short.mono _ _)
   | (with_reducible exact LeO.refl _)
   | (with_reducible exact LeO.none _)
   | (with_reducible refine LeO.ite ?_ ?_)
   | (with_reducible refine LeO.bind ?_ (fun _ => ?_))
   | exact ih0 _ _ _ _ _ _
   | exact spec_ConfText.mono _ _
   | exact spec_Sealed.mono _ _
   | exact spec_l01Var.mono _ _
   | exact spec_l05Short.mono _ _
   | exact LeO.none _
   | refine LeO.ite ?_ ?_
   | refine LeO.bind ?_ (fun _ => ?_)
theorem spec_SnapText.mono : ∀ a0 a1 a2 a3 k, LeO (spec_SnapText.f k a0 a1 a2 a3) (spec_SnapText.f (k + 1) a0 a1 a2 a3) := by
 intro a0 a1 a2 a3 k
 have ih0 := spec_SnapText.mono_l k
 unfold spec_SnapText.f
 repeat' first
   | (with_reducible exact ih0 _ _ _ _ _ _)
   | (with_reducible exact spec_ConfText.mono _ _)
   | (with_reducible exact spec_Sealed.mono _ _)
   | (with_reducible exact spec_l01Var.mono _ _)
   | (with_reducible exact spec_l05Short.mono _ _)
   | (with_reducible exact LeO.refl _)
   | (with_reducible exact LeO.none _)
   | (with_reducible refine LeO.ite ?_ ?_)
   | (with_reducible refine LeO.bind ?_ (fun _ => ?_))
   | exact ih0 _ _ _ _ _ _
   | exact spec_ConfText.mono _ _
   | exact spec_Sealed.mono _ _
   | exact spec_l01Var.mono _ _
   | exact spec_l05Short.mono _ _
   | exact LeO.none _
   | refine LeO.ite ?_ ?_
   | refine LeO.bind ?_ (fun _ => ?_)
def spec_SnapText.T4 : Bool × List (List Nat × List Nat) := (true, [([], []), ([0], [0]), ([1], [1]), ([], []), ([3], [3]), ([4, 2], [4]), ([2, 5], [2, 5]), ([], []), ([7, 5], [7]), ([6, 8], [6, 8]), ([], []), ([10], [10]), ([11, 8], [11]), ([9, 12], [9, 12]), ([13, 12, 0, 1, 2, 3, 4, 5, 6, 7, 8, 9, 10, 11, 12, 13], [13])])
def spec_SnapText.B4 : List Nat := [0, 1, 3, 0, 8, 31, 63, 0, 191, 511, 0, 1024, 3519, 8191, 16383]
theorem spec_SnapText.tab4 : rtab .any (opsOf Tryz.f56 4) = spec_SnapText.T4 := by kernel_rfl
theorem spec_SnapText.bits4 : waitsOk spec_SnapText.T4.2 spec_SnapText.B4 = true := by kernel_rfl
set_option maxHeartbeats 8000000 in
set_option maxRecDepth 100000 in
theorem spec_SnapText.calls (k : Nat) (a0_0 : Int) (a0_1 : Int) (A0_2 : Option Addr) (c0_2 : Nat) (l0_2 : List Int) (a0_3 : ByteArray) (r1 : ByteArray) (r2 : Bool) (w : World) (hr0_2 : Kd.C (Kd.int .i64) w A0_2 l0_2.length l0_2) (hc0_2 : l0_2.length ≤ c0_2) (h : spec_SnapText.f k a0_0 a0_1 l0_2 a0_3 = some (r1, r2)) :
  Calls Tryz.prog 56 #[.agg #[.int .i64 a0_0, .int .i64 a0_1, .slice A0_2 l0_2.length c0_2, .string a0_3]] w fun e w' => e = .returned (.tuple #[.string r1, .bool r2]) ∧ Below w.heap.size w w' := by
 have hu52 := Tryz.underlying52
 have HR0_2 := Aside0.mk hr0_2
 have HC0_2 := Aside0.mk hc0_2
 clear hr0_2 hc0_2
 have HB := Aside0.mk (Below.refl w.heap.size w)
 have H : ((spec_ConfText.f k l0_2).bind fun bt152 => (if bt152.2 = true then ((spec_l01In.f a0_0 0 1000000).bind fun t154 => (if t154 = true then ((spec_l01In.f a0_1 0 100000).bind fun t155 => (if t155 = true then (spec_SnapText.j0 k bt152.1 (decide ((a0_3.size : Int) > 20000)) a0_0 a0_1 l0_2 a0_3) else (spec_SnapText.j0 k bt152.1 true a0_0 a0_1 l0_2 a0_3))) else (spec_SnapText.j0 k bt152.1 true a0_0 a0_1 l0_2 a0_3))) else (spec_SnapText.j0 k bt152.1 true a0_0 a0_1 l0_2 a0_3))) = some (r1, r2) := h
 clear h
 replace H := Option.bind_eq_some_iff.mp H
 obtain ⟨⟨t152, t153⟩, A20, H⟩ := H
 try dsimp only at H
 have A2 := Aside0.mk A20
 clear A20
 have HC3 := Aside0.mk H
 clear H
 go_enter Tryz.func56, Tryz.ntmps56
 go_upto_region 2 with (first | ((with_reducible refine gate_dst (N := 1) rfl ?_); (try (refine gate_guard (by rfl) ?_; dsimp only)); refine box_event rfl (N := 1) rfl (cs := #[.int .i64 a0_0, .int .i64 a0_1, .slice A0_2 l0_2.length c0_2, .string a0_3]) (t := 52) zrun ?_; intro gb151 hg w4 hbox hb; have BK151 := am (hbox); have GE151 := zge hg (zb0 HB.out); replace HB := zs0 hb HB; clear hb hbox hg; obtain ⟨hcz5_0, hcz5_1, hcz5_2, hcz5_3, hfz5_0, hfz5_1, hfz5_2, hfz5_3⟩ := zc4 BK151.out) | ((with_reducible refine gate_callee (f := 94) rfl ?_); refine goesL_ (some 10) rfl rfl Tryz.func94 (by kernel_rfl) rfl #[.slice A0_2 l0_2.length c0_2] rfl zr ?_; (with_reducible refine (spec_ConfText.calls k _ _ l0_2 t152 t153 _ ?side1 ?side2 A2.out).mono ?_); (case side1 => repeat (first | exact (Kd.C_below HR0_2.out HB.out) | (with_reducible refine Kd.C_alloc ?_ _) | (with_reducible refine Kd.C_drewN ?_ _) | (with_reducible refine Kd.C_drew ?_))); (case side2 => exact HC0_2.out); rintro e w6 ⟨rfl, hb⟩; refine ⟨_, rfl, ?_⟩; replace BK151 := zk hb BK151; replace HB := zs1 hb HB GE151; clear hb))
 (try simp only [Act.put, List.setIfInBounds_toArray, List.set_cons_zero, List.set_cons_succ])
 go_cut [32] (fun v32 wc => ∃ (kq : Nat) (x32_2 : Bool), v32 = .bool x32_2 ∧ Aside0 (spec_SnapText.j0 kq t152 x32_2 a0_0 a0_1 l0_2 a0_3 = some (r1, r2)) ∧ Aside0 (kq ≤ k) ∧ Aside0 (wc.heap[gb151]? = some (.cells #[.int .i64 a0_0, .int .i64 a0_1, (.slice A0_2 l0_2.length c0_2), .string a0_3] 52 (0, 0))) ∧ Aside0 (Below w.heap.size w wc))
 case first =>
  have H := HC3.out
  clear HC3
  by_cases c7 : t153 = true
  ·subst c7
   have H1 : ((spec_l01In.f a0_0 0 1000000).bind fun t154 => (if t154 = true then ((spec_l01In.f a0_1 0 100000).bind fun t155 => (if t155 = true then (spec_SnapText.j0 k t152 (decide ((a0_3.size : Int) > 20000)) a0_0 a0_1 l0_2 a0_3) else (spec_SnapText.j0 k t152 true a0_0 a0_1 l0_2 a0_3))) else (spec_SnapText.j0 k t152 true a0_0 a0_1 l0_2 a0_3))) = some (r1, r2) := by rw [if_pos rfl] at H; exact H
   clear H
   have H := H1
   clear H1
   replace H := Option.bind_eq_some_iff.mp H
   obtain ⟨t154, A80, H⟩ := H
   try dsimp only at H
   have A8 := Aside0.mk A80
   clear A80
   by_cases c9 : t154 = true
   ·subst c9
    have H1 : ((spec_l01In.f a0_1 0 100000).bind fun t155 => (if t155 = true then (spec_SnapText.j0 k t152 (decide ((a0_3.size : Int) > 20000)) a0_0 a0_1 l0_2 a0_3) else (spec_SnapText.j0 k t152 true a0_0 a0_1 l0_2 a0_3))) = some (r1, r2) := by rw [if_pos rfl] at H; exact H
    clear H
    have H := H1
    clear H1
    replace H := Option.bind_eq_some_iff.mp H
    obtain ⟨t155, A100, H⟩ := H
    try dsimp only at H
    have A10 := Aside0.mk A100
    clear A100
    by_cases c11 : t155 = true
    ·subst c11
     have H1 : (spec_SnapText.j0 k t152 (decide ((a0_3.size : Int) > 20000)) a0_0 a0_1 l0_2 a0_3) = some (r1, r2) := by rw [if_pos rfl] at H; exact H
     clear H
     have H := H1
     clear H1
     have H' := Aside0.mk H
     clear H
     obtain ⟨hcz12_0, hcz12_1, hcz12_2, hcz12_3, hfz12_0, hfz12_1, hfz12_2, hfz12_3⟩ := zc4 BK151.out
     go_wp2_with (first | (go_at_call 72; (with_reducible refine (spec_l01In.calls a0_0 0 1000000 true _ A8.out).mono ?_); rintro e w' ⟨rfl, ⟨nd, rfl⟩⟩) | (go_at_call 72; (with_reducible refine (spec_l01In.calls a0_1 0 100000 true _ A10.out).mono ?_); rintro e w' ⟨rfl, ⟨nd, rfl⟩⟩))
     go_meet
     case rel => exact ⟨_, (decide ((a0_3.size : Int) > 20000)), (by first | rfl | (simp; done) | (simp [*]; done)), H', ⟨by first | omega | exact Nat.le_refl _⟩, ⟨kx BK151.out⟩, ⟨zb1 HB.out GE151.out⟩⟩
    ·replace c11 := Bool.eq_false_iff.mpr c11
     subst c11
     have H1 : (spec_SnapText.j0 k t152 true a0_0 a0_1 l0_2 a0_3) = some (r1, r2) := by rw [if_neg (show ¬ (false = true) by decide)] at H; exact H
     clear H
     have H := H1
     clear H1
     have H' := Aside0.mk H
     clear H
     obtain ⟨hcz13_0, hcz13_1, hcz13_2, hcz13_3, hfz13_0, hfz13_1, hfz13_2, hfz13_3⟩ := zc4 BK151.out
     go_wp2_with (first | (go_at_call 72; (with_reducible refine (spec_l01In.calls a0_0 0 1000000 true _ A8.out).mono ?_); rintro e w' ⟨rfl, ⟨nd, rfl⟩⟩) | (go_at_call 72; (with_reducible refine (spec_l01In.calls a0_1 0 100000 false _ A10.out).mono ?_); rintro e w' ⟨rfl, ⟨nd, rfl⟩⟩))
     go_meet
     case rel => exact ⟨_, (true), (by first | rfl | (simp; done) | (simp [*]; done)), H', ⟨by first | omega | exact Nat.le_refl _⟩, ⟨kx BK151.out⟩, ⟨zb1 HB.out GE151.out⟩⟩
   ·replace c9 := Bool.eq_false_iff.mpr c9
    subst c9
    have H1 : (spec_SnapText.j0 k t152 true a0_0 a0_1 l0_2 a0_3) = some (r1, r2) := by rw [if_neg (show ¬ (false = true) by decide)] at H; exact H
    clear H
    have H := H1
    clear H1
    have H' := Aside0.mk H
    clear H
    obtain ⟨hcz14_0, hcz14_1, hcz14_2, hcz14_3, hfz14_0, hfz14_1, hfz14_2, hfz14_3⟩ := zc4 BK151.out
    go_wp2_with (first | (go_at_call 72; (with_reducible refine (spec_l01In.calls a0_0 0 1000000 false _ A8.out).mono ?_); rintro e w' ⟨rfl, ⟨nd, rfl⟩⟩))
    go_meet
    case rel => exact ⟨_, (true), (by first | rfl | (simp; done) | (simp [*]; done)), H', ⟨by first | omega | exact Nat.le_refl _⟩, ⟨kx BK151.out⟩, ⟨zb1 HB.out GE151.out⟩⟩
  ·replace c7 := Bool.eq_false_iff.mpr c7
   subst c7
   have H1 : (spec_SnapText.j0 k t152 true a0_0 a0_1 l0_2 a0_3) = some (r1, r2) := by rw [if_neg (show ¬ (false = true) by decide)] at H; exact H
   clear H
   have H := H1
   clear H1
   have H' := Aside0.mk H
   clear H
   go_wp2
   go_meet
   case rel => exact ⟨_, (true), (by first | rfl | (simp; done) | (simp [*]; done)), H', ⟨by first | omega | exact Nat.le_refl _⟩, ⟨kx BK151.out⟩, ⟨zb1 HB.out GE151.out⟩⟩
 case rest =>
  clear HC3
  obtain ⟨kq, x32_2, rfl, HA, HJ2, BK151, HB⟩ := hcut
  cases kq with
  | zero => exact absurd HA.out (by simp [spec_SnapText.j0])
  | succ kj2 =>
   have H := HA.out
   clear HA
   simp only [spec_SnapText.j0] at H
   by_cases c15 : x32_2 = true
   ·subst c15
    have H1 : (some ((⟨#[]⟩ : ByteArray), false)) = some (r1, r2) := by rw [if_pos rfl] at H; exact H
    clear H
    have H := H1
    clear H1
    simp only [Option.some.injEq, Prod.mk.injEq] at H
    obtain ⟨rfl, rfl⟩ := H
    go_wp2
    go_ret2
    exact ⟨by first | rfl | (simp [errW_none, errW_some] <;> rfl) | (simp [*, errW_none, errW_some] <;> rfl), zb1 HB.out GE151.out⟩
   ·replace c15 := Bool.eq_false_iff.mpr c15
    subst c15
    have H1 : ((spec_l01Var.f kj2 a0_0).bind fun t156 => ((spec_l01Var.f kj2 a0_1).bind fun t157 => (if t156.size + t157.size ≤ 9223372036854775807 then ((spec_l05Short.f kj2 t152).bind fun t158 => (if (t156 ++ t157).size + t158.size ≤ 9223372036854775807 then ((spec_l05Short.f kj2 a0_3).bind fun t159 => (if ((t156 ++ t157) ++ t158).size + t159.size ≤ 9223372036854775807 then (if (wrap64 (((((t156 ++ t157) ++ t158) ++ t159).size : Int) + 4)) > 20000 then (some ((⟨#[]⟩ : ByteArray), false)) else ((spec_Sealed.f kj2 (((t156 ++ t157) ++ t158) ++ t159)).bind fun bt160 => (some (bt160.1, bt160.2)))) else (none))) else (none))) else (none)))) = some (r1, r2) := by rw [if_neg (show ¬ (false = true) by decide)] at H; exact H
    clear H
    have H := H1
    clear H1
    replace H := Option.bind_eq_some_iff.mp H
    obtain ⟨t156, A160, H⟩ := H
    try dsimp only at H
    have A16 := Aside0.mk A160
    clear A160
    replace H := Option.bind_eq_some_iff.mp H
    obtain ⟨t157, A170, H⟩ := H
    try dsimp only at H
    have A17 := Aside0.mk A170
    clear A170
    by_cases c18 : t156.size + t157.size ≤ 9223372036854775807
    ·rw [if_pos c18] at H
     have c18b0 := eq_true c18
     have c18b1 : decide (t156.size + t157.size ≤ 9223372036854775807) = true := decide_eq_true c18
     try have c18b2 : (9223372036854775807 < t156.size + t157.size) = False := eq_false (Nat.not_lt.2 c18)
     replace H := Option.bind_eq_some_iff.mp H
     obtain ⟨t158, A190, H⟩ := H
     try dsimp only at H
     have A19 := Aside0.mk A190
     clear A190
     by_cases c20 : (t156 ++ t157).size + t158.size ≤ 9223372036854775807
     ·rw [if_pos c20] at H
      have c20b0 := eq_true c20
      have c20b1 : decide ((t156 ++ t157).size + t158.size ≤ 9223372036854775807) = true := decide_eq_true c20
      try have c20b3 : (9223372036854775807 < t156.size + t157.size + t158.size) = False := eq_false (by have h_ := c20; rw [Nat.not_lt]; simp only [ByteArray.size_append] at h_; first | exact h_ | (simp at h_; omega) | omega)
      try have c20b2 : (9223372036854775807 < (t156 ++ t157).size + t158.size) = False := eq_false (Nat.not_lt.2 c20)
      replace H := Option.bind_eq_some_iff.mp H
      obtain ⟨t159, A210, H⟩ := H
      try dsimp only at H
      have A21 := Aside0.mk A210
      clear A210
      by_cases c22 : ((t156 ++ t157) ++ t158).size + t159.size ≤ 9223372036854775807
      ·rw [if_pos c22] at H
       have c22b0 := eq_true c22
       have c22b1 : decide (((t156 ++ t157) ++ t158).size + t159.size ≤ 9223372036854775807) = true := decide_eq_true c22
       try have c22b3 : (9223372036854775807 < t156.size + t157.size + t158.size + t159.size) = False := eq_false (by have h_ := c22; rw [Nat.not_lt]; simp only [ByteArray.size_append] at h_; first | exact h_ | (simp at h_; omega) | omega)
       try have c22b2 : (9223372036854775807 < ((t156 ++ t157) ++ t158).size + t159.size) = False := eq_false (Nat.not_lt.2 c22)
       by_cases c23 : (wrap64 (((((t156 ++ t157) ++ t158) ++ t159).size : Int) + 4)) > 20000
       ·rw [if_pos c23] at H
        have c23b0 : decide (20000 < (wrap64 (((((t156 ++ t157) ++ t158) ++ t159).size : Int) + 4))) = true := decide_eq_true c23
        have c23b1 : decide (20000 < wrap64 ((t156.size : Int) + (t157.size : Int) + (t158.size : Int) + (t159.size : Int) + 4)) = true := by have h_ := c23b0; simp only [ByteArray.size_append, Int.natCast_add] at h_; exact h_
        clear c23
        simp only [Option.some.injEq, Prod.mk.injEq] at H
        obtain ⟨rfl, rfl⟩ := H
        try go_wp2
        replace BK151 := am (blk_drew BK151.out)
        replace HB := am (below_drew1 HB.out)
        refine start_ (n := 15) (S := fun w' => w'.cell? ⟨gb151, 0, none⟩ = some (.int .i64 a0_0) ∧ w'.cell? ⟨gb151, 1, none⟩ = some (.int .i64 a0_1) ∧ w'.cell? ⟨gb151, 2, none⟩ = some (.slice A0_2 l0_2.length c0_2) ∧ w'.cell? ⟨gb151, 3, none⟩ = some (.string a0_3)) (ds := []) #[false, false, false, false, false, false, false, false, false, false, false, false, false, false, false] (by kernel_rfl) rfl rfl ⟨ct BK151.out 0, ct BK151.out 1, ct BK151.out 2, ct BK151.out 3⟩ (fun hHeld => ?_); refine with_tabW spec_SnapText.tab4 spec_SnapText.bits4 (fun HT_ HW_ => ?_)
        generalize wc.drew = w24 at BK151 HB hHeld ⊢
        refine zpu 0 33 #[true, false, false, false, false, false, false, false, false, false, false, false, false, false, false] HT_ ?_
        refine zpu 3 36 #[true, false, false, true, false, false, false, false, false, false, false, false, false, false, false] HT_ ?_
        refine zpu 7 40 #[true, false, false, true, false, false, false, true, false, false, false, false, false, false, false] HT_ ?_
        refine zpu 10 43 #[true, false, false, true, false, false, false, true, false, false, true, false, false, false, false] HT_ ?_
        refine ztk4 1 34 #[true, true, false, true, false, false, false, true, false, false, true, false, false, false, false] HT_ HW_ hHeld ?_
        refine ztk4 4 37 #[true, true, false, true, true, false, false, true, false, false, true, false, false, false, false] HT_ HW_ hHeld ?_
        refine ztk4 11 44 #[true, true, false, true, true, false, false, true, false, false, true, true, false, false, false] HT_ HW_ hHeld ?_
        refine zon 2 #[true, true, true, true, true, false, false, true, false, false, true, true, false, false, false] HT_ (fun K hK => ?_)
        refine goes_ Tryz.func95 (by kernel_rfl) rfl #[.int .i64 a0_0] (by rfl) rfl rfl zr ?_
        with_reducible refine (spec_l01Var.calls kj2 a0_0 t156 _ A16.out).mono ?_
        rintro e w25 ⟨rfl, hb⟩
        refine ⟨_, rfl, ?_⟩
        replace BK151 := zk hb BK151
        replace HB := zs1 hb HB GE151
        refine hK.out _ _ ⟨ct BK151.out 0, ct BK151.out 1, ct BK151.out 2, ct BK151.out 3⟩ (fun hHeld => ?_)
        clear hK K
        refine znm 35 ?_
        refine zon 5 #[true, true, true, true, true, true, false, true, false, false, true, true, false, false, false] HT_ (fun K hK => ?_)
        refine goes_ Tryz.func95 (by kernel_rfl) rfl #[.int .i64 a0_1] (by rfl) rfl rfl zr ?_
        with_reducible refine (spec_l01Var.calls kj2 a0_1 t157 _ A17.out).mono ?_
        rintro e w26 ⟨rfl, hb⟩
        refine ⟨_, rfl, ?_⟩
        replace BK151 := zk hb BK151
        replace HB := zs1 hb HB GE151
        refine hK.out _ _ ⟨ct BK151.out 0, ct BK151.out 1, ct BK151.out 2, ct BK151.out 3⟩ (fun hHeld => ?_)
        clear hK K
        refine znm 38 ?_
        refine zpu 6 39 #[true, true, true, true, true, true, true, true, false, false, true, true, false, false, false] HT_ ?_
        refine zon 8 #[true, true, true, true, true, true, true, true, true, false, true, true, false, false, false] HT_ (fun K hK => ?_)
        refine goes_ Tryz.func96 (by kernel_rfl) rfl #[.string t152] (by rfl) rfl rfl zr ?_
        with_reducible refine (spec_l05Short.calls kj2 t152 t158 _ A19.out).mono ?_
        rintro e w27 ⟨rfl, hb⟩
        refine ⟨_, rfl, ?_⟩
        replace BK151 := zk hb BK151
        replace HB := zs1 hb HB GE151
        refine hK.out _ _ ⟨ct BK151.out 0, ct BK151.out 1, ct BK151.out 2, ct BK151.out 3⟩ (fun hHeld => ?_)
        clear hK K
        refine znm 41 ?_
        refine zpu 9 42 #[true, true, true, true, true, true, true, true, true, true, true, true, false, false, false] HT_ ?_
        refine zon 12 #[true, true, true, true, true, true, true, true, true, true, true, true, true, false, false] HT_ (fun K hK => ?_)
        refine goes_ Tryz.func96 (by kernel_rfl) rfl #[.string a0_3] (by rfl) rfl rfl zr ?_
        with_reducible refine (spec_l05Short.calls kj2 a0_3 t159 _ A21.out).mono ?_
        rintro e w28 ⟨rfl, hb⟩
        refine ⟨_, rfl, ?_⟩
        replace BK151 := zk hb BK151
        replace HB := zs1 hb HB GE151
        refine hK.out _ _ ⟨ct BK151.out 0, ct BK151.out 1, ct BK151.out 2, ct BK151.out 3⟩ (fun hHeld => ?_)
        clear hK K
        refine znm 45 ?_
        refine zpu 13 46 #[true, true, true, true, true, true, true, true, true, true, true, true, true, true, false] HT_ ?_
        refine zpu 14 6 #[true, true, true, true, true, true, true, true, true, true, true, true, true, true, true] HT_ ?_
        refine zdn HT_ ?_
        try go_wp2
        go_ret2
        exact ⟨by first | rfl | (simp [errW_none, errW_some] <;> rfl) | (simp [*, errW_none, errW_some] <;> rfl), zb1 HB.out GE151.out⟩
       ·rw [if_neg c23] at H
        have c23b0 : decide (20000 < (wrap64 (((((t156 ++ t157) ++ t158) ++ t159).size : Int) + 4))) = false := decide_eq_false c23
        have c23b1 : decide (20000 < wrap64 ((t156.size : Int) + (t157.size : Int) + (t158.size : Int) + (t159.size : Int) + 4)) = false := by have h_ := c23b0; simp only [ByteArray.size_append, Int.natCast_add] at h_; exact h_
        clear c23
        replace H := Option.bind_eq_some_iff.mp H
        obtain ⟨⟨t160, t161⟩, A290, H⟩ := H
        try dsimp only at H
        have A29 := Aside0.mk A290
        clear A290
        simp only [Option.some.injEq, Prod.mk.injEq] at H
        obtain ⟨rfl, rfl⟩ := H
        try go_wp2
        replace BK151 := am (blk_drew BK151.out)
        replace HB := am (below_drew1 HB.out)
        refine start_ (n := 15) (S := fun w' => w'.cell? ⟨gb151, 0, none⟩ = some (.int .i64 a0_0) ∧ w'.cell? ⟨gb151, 1, none⟩ = some (.int .i64 a0_1) ∧ w'.cell? ⟨gb151, 2, none⟩ = some (.slice A0_2 l0_2.length c0_2) ∧ w'.cell? ⟨gb151, 3, none⟩ = some (.string a0_3)) (ds := []) #[false, false, false, false, false, false, false, false, false, false, false, false, false, false, false] (by kernel_rfl) rfl rfl ⟨ct BK151.out 0, ct BK151.out 1, ct BK151.out 2, ct BK151.out 3⟩ (fun hHeld => ?_); refine with_tabW spec_SnapText.tab4 spec_SnapText.bits4 (fun HT_ HW_ => ?_)
        generalize wc.drew = w30 at BK151 HB hHeld ⊢
        refine zpu 0 33 #[true, false, false, false, false, false, false, false, false, false, false, false, false, false, false] HT_ ?_
        refine zpu 3 36 #[true, false, false, true, false, false, false, false, false, false, false, false, false, false, false] HT_ ?_
        refine zpu 7 40 #[true, false, false, true, false, false, false, true, false, false, false, false, false, false, false] HT_ ?_
        refine zpu 10 43 #[true, false, false, true, false, false, false, true, false, false, true, false, false, false, false] HT_ ?_
        refine ztk4 1 34 #[true, true, false, true, false, false, false, true, false, false, true, false, false, false, false] HT_ HW_ hHeld ?_
        refine ztk4 4 37 #[true, true, false, true, true, false, false, true, false, false, true, false, false, false, false] HT_ HW_ hHeld ?_
        refine ztk4 11 44 #[true, true, false, true, true, false, false, true, false, false, true, true, false, false, false] HT_ HW_ hHeld ?_
        refine zon 2 #[true, true, true, true, true, false, false, true, false, false, true, true, false, false, false] HT_ (fun K hK => ?_)
        refine goes_ Tryz.func95 (by kernel_rfl) rfl #[.int .i64 a0_0] (by rfl) rfl rfl zr ?_
        with_reducible refine (spec_l01Var.calls kj2 a0_0 t156 _ A16.out).mono ?_
        rintro e w31 ⟨rfl, hb⟩
        refine ⟨_, rfl, ?_⟩
        replace BK151 := zk hb BK151
        replace HB := zs1 hb HB GE151
        refine hK.out _ _ ⟨ct BK151.out 0, ct BK151.out 1, ct BK151.out 2, ct BK151.out 3⟩ (fun hHeld => ?_)
        clear hK K
        refine znm 35 ?_
        refine zon 5 #[true, true, true, true, true, true, false, true, false, false, true, true, false, false, false] HT_ (fun K hK => ?_)
        refine goes_ Tryz.func95 (by kernel_rfl) rfl #[.int .i64 a0_1] (by rfl) rfl rfl zr ?_
        with_reducible refine (spec_l01Var.calls kj2 a0_1 t157 _ A17.out).mono ?_
        rintro e w32 ⟨rfl, hb⟩
        refine ⟨_, rfl, ?_⟩
        replace BK151 := zk hb BK151
        replace HB := zs1 hb HB GE151
        refine hK.out _ _ ⟨ct BK151.out 0, ct BK151.out 1, ct BK151.out 2, ct BK151.out 3⟩ (fun hHeld => ?_)
        clear hK K
        refine znm 38 ?_
        refine zpu 6 39 #[true, true, true, true, true, true, true, true, false, false, true, true, false, false, false] HT_ ?_
        refine zon 8 #[true, true, true, true, true, true, true, true, true, false, true, true, false, false, false] HT_ (fun K hK => ?_)
        refine goes_ Tryz.func96 (by kernel_rfl) rfl #[.string t152] (by rfl) rfl rfl zr ?_
        with_reducible refine (spec_l05Short.calls kj2 t152 t158 _ A19.out).mono ?_
        rintro e w33 ⟨rfl, hb⟩
        refine ⟨_, rfl, ?_⟩
        replace BK151 := zk hb BK151
        replace HB := zs1 hb HB GE151
        refine hK.out _ _ ⟨ct BK151.out 0, ct BK151.out 1, ct BK151.out 2, ct BK151.out 3⟩ (fun hHeld => ?_)
        clear hK K
        refine znm 41 ?_
        refine zpu 9 42 #[true, true, true, true, true, true, true, true, true, true, true, true, false, false, false] HT_ ?_
        refine zon 12 #[true, true, true, true, true, true, true, true, true, true, true, true, true, false, false] HT_ (fun K hK => ?_)
        refine goes_ Tryz.func96 (by kernel_rfl) rfl #[.string a0_3] (by rfl) rfl rfl zr ?_
        with_reducible refine (spec_l05Short.calls kj2 a0_3 t159 _ A21.out).mono ?_
        rintro e w34 ⟨rfl, hb⟩
        refine ⟨_, rfl, ?_⟩
        replace BK151 := zk hb BK151
        replace HB := zs1 hb HB GE151
        refine hK.out _ _ ⟨ct BK151.out 0, ct BK151.out 1, ct BK151.out 2, ct BK151.out 3⟩ (fun hHeld => ?_)
        clear hK K
        refine znm 45 ?_
        refine zpu 13 46 #[true, true, true, true, true, true, true, true, true, true, true, true, true, true, false] HT_ ?_
        refine zpu 14 6 #[true, true, true, true, true, true, true, true, true, true, true, true, true, true, true] HT_ ?_
        refine zdn HT_ ?_
        try go_wp2_with (first | ((with_reducible refine gate_callee (f := 97) rfl ?_); refine goesL_ (some 52) rfl rfl Tryz.func97 (by kernel_rfl) rfl #[.string (((t156 ++ t157) ++ t158) ++ t159)] rfl zr ?_; (with_reducible refine (spec_Sealed.calls kj2 (((t156 ++ t157) ++ t158) ++ t159) t160 t161 _ A29.out).mono ?_); rintro e w35 ⟨rfl, hb⟩; refine ⟨_, rfl, ?_⟩; replace BK151 := zk hb BK151; replace HB := zs1 hb HB GE151; clear hb))
        go_ret2
        exact ⟨by first | rfl | (simp [errW_none, errW_some] <;> rfl) | (simp [*, errW_none, errW_some] <;> rfl), zb1 HB.out GE151.out⟩
      ·rw [if_neg c22] at H
       exact absurd H (by simp)
     ·rw [if_neg c20] at H
      exact absurd H (by simp)
    ·rw [if_neg c18] at H
     exact absurd H (by simp)

end Go.Proofs.YtogifkjkbfdocaaGreatDoor.QFnExactShedActs
