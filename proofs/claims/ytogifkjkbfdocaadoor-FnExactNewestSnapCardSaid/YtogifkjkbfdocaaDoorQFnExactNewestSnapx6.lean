/- Written by the kit's print.py, called by our own print2.sh with one import more; not by print.sh. -/
import Derived.Test.YtogifkjkbfdocaaDoorQFnExactNewestSnapx0
import Derived.Test.YtogifkjkbfdocaaDoorQFnExactNewestSnapx1
import Derived.Test.YtogifkjkbfdocaaDoorQFnExactNewestSnapx3
import Derived.Test.YtogifkjkbfdocaaDoorQFnExactNewestSnapx4
import Derived.Test.YtogifkjkbfdocaaDoorQFnExactNewestSnapx5
namespace Go.Proofs.YtogifkjkbfdocaaDoor.QFnExactNewestSnap
open Go.RowKit Go.Proofs.YtogifkjkbfdocaaDoorW.PrintWords Go.Proofs.YtogifkjkbfdocaaDoorW.PrintLast Go.Proofs.YtogifkjkbfdocaaDoorW.PrintMore
attribute [local go_sem] max2_int min2_int max_two min_two max_three min_three max_four min_four   -- for this text's walks alone
open Go.Proofs.YtogifkjkbfdocaaDoor.Short
set_option linter.unusedVariables false
set_option linter.unusedSimpArgs false

/-! ### spec_SnapText: function 75 -/
def spec_SnapText.j0 : Nat → ByteArray → Bool → Int → Int → List Int → ByteArray → Option (ByteArray × Bool)
 | 0, _, _, _, _, _, _ => none
 | k + 1, x4, x32, x184000, x184001, x184002, x184003 => if x32 = true then (some ((⟨#[]⟩ : ByteArray), false)) else ((spec_l01Var.f k x184000).bind fun t188 => ((spec_l01Var.f k x184001).bind fun t189 => (if t188.size + t189.size ≤ 9223372036854775807 then ((spec_l05Short.f k x4).bind fun t190 => (if (t188 ++ t189).size + t190.size ≤ 9223372036854775807 then ((spec_l05Short.f k x184003).bind fun t191 => (if ((t188 ++ t189) ++ t190).size + t191.size ≤ 9223372036854775807 then (if (wrap64 (((((t188 ++ t189) ++ t190) ++ t191).size : Int) + 4)) > 20000 then (some ((⟨#[]⟩ : ByteArray), false)) else ((spec_Sealed.f k (((t188 ++ t189) ++ t190) ++ t191)).bind fun bt192 => (some (bt192.1, bt192.2)))) else (none))) else (none))) else (none))))
def spec_SnapText.f (k : Nat) (a0_0 : Int) (a0_1 : Int) (l0_2 : List Int) (a0_3 : ByteArray) : Option (ByteArray × Bool) := (spec_ConfText.f k l0_2).bind fun bt184 => (if bt184.2 = true then ((spec_l01In.f a0_0 0 1000000).bind fun t186 => (if t186 = true then ((spec_l01In.f a0_1 0 100000).bind fun t187 => (if t187 = true then (spec_SnapText.j0 k bt184.1 (decide ((a0_3.size : Int) > 20000)) a0_0 a0_1 l0_2 a0_3) else (spec_SnapText.j0 k bt184.1 true a0_0 a0_1 l0_2 a0_3))) else (spec_SnapText.j0 k bt184.1 true a0_0 a0_1 l0_2 a0_3))) else (spec_SnapText.j0 k bt184.1 true a0_0 a0_1 l0_2 a0_3))
theorem spec_SnapText.mono_l : ∀ k, (∀ y0 y1 y2 y3 y4 y5, LeO (spec_SnapText.j0 k y0 y1 y2 y3 y4 y5) (spec_SnapText.j0 (k + 1) y0 y1 y2 y3 y4 y5))
 | 0 => fun _ _ _ _ _ _ r h => by simp [spec_SnapText.j0] at h
 | k + 1 => by
  have ih0 := spec_SnapText.mono_l k
  ·intro y0 y1 y2 y3 y4 y5
   unfold spec_SnapText.j0
   repeat' first
   | (with_reducible exact ih0 _ _ _ _ _ _)
   | (with_reducible exact spec_ConfText.mono _ _)
   | (with_reducible exact spec_Sealed.mono _ _)
   | (with_reducible exact spec_l01Var.mono _ _)
   | (with_reducible exact spec_l05Short.mono _ _)
   | (with_reducible exact LeO.refl _)
   | (with_reducible exact LeO.none _)
   | (with_reducible refine LeO.ite ?_ ?_)
   | (with_reducible refine LeO.bind ?_ (fun _ => ?_))
   | exact ih0 _ _ _ _ _ _
   | exact spec_ConfText.mono _ _
   | exact spec_Sealed.mono _ _
   | exact spec_l01Var.mono _ _
   | exact spec_l05Short.mono _ _
   | exact LeO.none _
   | refine LeO.ite ?_ ?_
   | refine LeO.bind ?_ (fun _ => ?_)
theorem spec_SnapText.mono : ∀ a0 a1 a2 a3 k, LeO (spec_SnapText.f k a0 a1 a2 a3) (spec_SnapText.f (k + 1) a0 a1 a2 a3) := by
 intro a0 a1 a2 a3 k
 have ih0 := spec_SnapText.mono_l k
 unfold spec_SnapText.f
 repeat' first
   | (with_reducible exact ih0 _ _ _ _ _ _)
   | (with_reducible exact spec_ConfText.mono _ _)
   | (with_reducible exact spec_Sealed.mono _ _)
   | (with_reducible exact spec_l01Var.mono _ _)
   | (with_reducible exact spec_l05Short.mono _ _)
   | (with_reducible exact LeO.refl _)
   | (with_reducible exact LeO.none _)
   | (with_reducible refine LeO.ite ?_ ?_)
   | (with_reducible refine LeO.bind ?_ (fun _ => ?_))
   | exact ih0 _ _ _ _ _ _
   | exact spec_ConfText.mono _ _
   | exact spec_Sealed.mono _ _
   | exact spec_l01Var.mono _ _
   | exact spec_l05Short.mono _ _
   | exact LeO.none _
   | refine LeO.ite ?_ ?_
   | refine LeO.bind ?_ (fun _ => ?_)
def spec_SnapText.T4 : Bool × List (List Nat × List Nat) := (true, [([], []), ([0], [0]), ([1], [1]), ([], []), ([3], [3]), ([4, 2], [4]), ([2, 5], [2, 5]), ([], []), ([7, 5], [7]), ([6, 8], [6, 8]), ([], []), ([10], [10]), ([11, 8], [11]), ([9, 12], [9, 12]), ([13, 12, 0, 1, 2, 3, 4, 5, 6, 7, 8, 9, 10, 11, 12, 13], [13])])
def spec_SnapText.B4 : List Nat := [0, 1, 3, 0, 8, 31, 63, 0, 191, 511, 0, 1024, 3519, 8191, 16383]
theorem spec_SnapText.tab4 : rtab .any (opsOf Tryd.f75 4) = spec_SnapText.T4 := by kernel_rfl
theorem spec_SnapText.bits4 : waitsOk spec_SnapText.T4.2 spec_SnapText.B4 = true := by kernel_rfl
set_option maxHeartbeats 8000000 in
set_option maxRecDepth 100000 in
theorem spec_SnapText.calls (k : Nat) (a0_0 : Int) (a0_1 : Int) (A0_2 : Option Addr) (c0_2 : Nat) (l0_2 : List Int) (a0_3 : ByteArray) (r1 : ByteArray) (r2 : Bool) (w : World) (hr0_2 : Kd.C (Kd.int .i64) w A0_2 l0_2.length l0_2) (hc0_2 : l0_2.length ≤ c0_2) (h : spec_SnapText.f k a0_0 a0_1 l0_2 a0_3 = some (r1, r2)) :
  Calls Tryd.prog 75 #[.agg #[.int .i64 a0_0, .int .i64 a0_1, .slice A0_2 l0_2.length c0_2, .string a0_3]] w fun e w' => e = .returned (.tuple #[.string r1, .bool r2]) ∧ Below w.heap.size w w' := by
 have hu48 := Tryd.underlying48
 have HR0_2 := Aside0.mk hr0_2
 have HC0_2 := Aside0.mk hc0_2
 clear hr0_2 hc0_2
 have HB := Aside0.mk (Below.refl w.heap.size w)
 have H : ((spec_ConfText.f k l0_2).bind fun bt184 => (if bt184.2 = true then ((spec_l01In.f a0_0 0 1000000).bind fun t186 => (if t186 = true then ((spec_l01In.f a0_1 0 100000).bind fun t187 => (if t187 = true then (spec_SnapText.j0 k bt184.1 (decide ((a0_3.size : Int) > 20000)) a0_0 a0_1 l0_2 a0_3) else (spec_SnapText.j0 k bt184.1 true a0_0 a0_1 l0_2 a0_3))) else (spec_SnapText.j0 k bt184.1 true a0_0 a0_1 l0_2 a0_3))) else (spec_SnapText.j0 k bt184.1 true a0_0 a0_1 l0_2 a0_3))) = some (r1, r2) := h
 clear h
 replace H := Option.bind_eq_some_iff.mp H
 obtain ⟨⟨t184, t185⟩, A20, H⟩ := H
 try dsimp only at H
 have A2 := Aside0.mk A20
 clear A20
 have HC3 := Aside0.mk H
 clear H
 go_enter Tryd.func75, Tryd.ntmps75
 go_upto_region 2 with (first | ((with_reducible refine gate_dst (N := 1) rfl ?_); (try (refine gate_guard (by rfl) ?_; dsimp only)); refine box_event ?hg (N := 1) ?hd (cs := #[.int .i64 a0_0, .int .i64 a0_1, .slice A0_2 l0_2.length c0_2, .string a0_3]) (t := 48) ?hr ?_; (case hd => rfl); (case hg => rfl); (case hr => first | (go_simp; done) | (go_simp; rfl)); intro gb183 hg w4 hbox hb; have BK183 := am (hbox); have GW183 := zge hg (zb0 HB.out); have GE183 := zge hg (zb0 HB.out); replace HB := am (below_step (zb0 HB.out) hb); clear hb hbox hg; obtain ⟨hcz5_0, hcz5_1, hcz5_2, hcz5_3, hfz5_0, hfz5_1, hfz5_2, hfz5_3⟩ := zc4 BK183.out) | ((with_reducible refine gate_callee (f := 100) rfl ?_); refine goesL_ (some 10) rfl rfl Tryd.func100 (by kernel_rfl) rfl #[.slice A0_2 l0_2.length c0_2] rfl zr ?_; (with_reducible refine (spec_ConfText.calls k _ _ l0_2 t184 t185 _ ?side1 ?side2 A2.out).mono ?_); (case side1 => repeat (first | exact (Kd.C_below HR0_2.out HB.out) | (with_reducible refine Kd.C_alloc ?_ _) | (with_reducible refine Kd.C_drewN ?_ _) | (with_reducible refine Kd.C_drew ?_))); (case side2 => exact HC0_2.out); rintro e w6 ⟨rfl, hb⟩; refine ⟨_, rfl, ?_⟩; replace BK183 := am (bb hb (kx BK183.out)); replace HB := am (below_step (zb1 HB.out GE183.out) hb); (try clear hb); (try clear hb2); (try clear hk); (try clear hi)))
 (try simp only [Act.put, List.setIfInBounds_toArray, List.set_cons_zero, List.set_cons_succ])
 go_cut [32] (fun v32 wc => ∃ (kq : Nat) (x32_2 : Bool), v32 = .bool x32_2 ∧ Aside0 (spec_SnapText.j0 kq t184 x32_2 a0_0 a0_1 l0_2 a0_3 = some (r1, r2)) ∧ Aside0 (kq ≤ k) ∧ Aside0 (wc.heap[gb183]? = some (.cells #[.int .i64 a0_0, .int .i64 a0_1, (.slice A0_2 l0_2.length c0_2), .string a0_3] 48 (0, 0))) ∧ Aside0 (Below w.heap.size w wc))
 case first =>
  have H := HC3.out
  clear HC3
  by_cases c7 : t185 = true
  ·subst c7
   have H1 : ((spec_l01In.f a0_0 0 1000000).bind fun t186 => (if t186 = true then ((spec_l01In.f a0_1 0 100000).bind fun t187 => (if t187 = true then (spec_SnapText.j0 k t184 (decide ((a0_3.size : Int) > 20000)) a0_0 a0_1 l0_2 a0_3) else (spec_SnapText.j0 k t184 true a0_0 a0_1 l0_2 a0_3))) else (spec_SnapText.j0 k t184 true a0_0 a0_1 l0_2 a0_3))) = some (r1, r2) := by rw [if_pos rfl] at H; exact H
   clear H
   have H := H1
   clear H1
   replace H := Option.bind_eq_some_iff.mp H
   obtain ⟨t186, A80, H⟩ := H
   try dsimp only at H
   have A8 := Aside0.mk A80
   clear A80
   by_cases c9 : t186 = true
   ·subst c9
    have H1 : ((spec_l01In.f a0_1 0 100000).bind fun t187 => (if t187 = true then (spec_SnapText.j0 k t184 (decide ((a0_3.size : Int) > 20000)) a0_0 a0_1 l0_2 a0_3) else (spec_SnapText.j0 k t184 true a0_0 a0_1 l0_2 a0_3))) = some (r1, r2) := by rw [if_pos rfl] at H; exact H
    clear H
    have H := H1
    clear H1
    replace H := Option.bind_eq_some_iff.mp H
    obtain ⟨t187, A100, H⟩ := H
    try dsimp only at H
    have A10 := Aside0.mk A100
    clear A100
    by_cases c11 : t187 = true
    ·subst c11
     have H1 : (spec_SnapText.j0 k t184 (decide ((a0_3.size : Int) > 20000)) a0_0 a0_1 l0_2 a0_3) = some (r1, r2) := by rw [if_pos rfl] at H; exact H
     clear H
     have H := H1
     clear H1
     have H' := Aside0.mk H
     clear H
     obtain ⟨hcz12_0, hcz12_1, hcz12_2, hcz12_3, hfz12_0, hfz12_1, hfz12_2, hfz12_3⟩ := zc4 BK183.out
     go_wp2_with (first | (go_at_call 69; (with_reducible refine (spec_l01In.calls a0_0 0 1000000 true _ A8.out).mono ?_); rintro e w' ⟨rfl, ⟨nd, rfl⟩⟩) | (go_at_call 69; (with_reducible refine (spec_l01In.calls a0_1 0 100000 true _ A10.out).mono ?_); rintro e w' ⟨rfl, ⟨nd, rfl⟩⟩))
     go_meet
     case rel => exact ⟨_, (decide ((a0_3.size : Int) > 20000)), (by first | rfl | (simp; done) | (simp [*]; done)), H', ⟨by first | omega | exact Nat.le_refl _⟩, ⟨kx BK183.out⟩, ⟨zb1 HB.out GE183.out⟩⟩
    ·replace c11 := Bool.eq_false_iff.mpr c11
     subst c11
     have H1 : (spec_SnapText.j0 k t184 true a0_0 a0_1 l0_2 a0_3) = some (r1, r2) := by rw [if_neg (show ¬ (false = true) by decide)] at H; exact H
     clear H
     have H := H1
     clear H1
     have H' := Aside0.mk H
     clear H
     obtain ⟨hcz13_0, hcz13_1, hcz13_2, hcz13_3, hfz13_0, hfz13_1, hfz13_2, hfz13_3⟩ := zc4 BK183.out
     go_wp2_with (first | (go_at_call 69; (with_reducible refine (spec_l01In.calls a0_0 0 1000000 true _ A8.out).mono ?_); rintro e w' ⟨rfl, ⟨nd, rfl⟩⟩) | (go_at_call 69; (with_reducible refine (spec_l01In.calls a0_1 0 100000 false _ A10.out).mono ?_); rintro e w' ⟨rfl, ⟨nd, rfl⟩⟩))
     go_meet
     case rel => exact ⟨_, (true), (by first | rfl | (simp; done) | (simp [*]; done)), H', ⟨by first | omega | exact Nat.le_refl _⟩, ⟨kx BK183.out⟩, ⟨zb1 HB.out GE183.out⟩⟩
   ·replace c9 := Bool.eq_false_iff.mpr c9
    subst c9
    have H1 : (spec_SnapText.j0 k t184 true a0_0 a0_1 l0_2 a0_3) = some (r1, r2) := by rw [if_neg (show ¬ (false = true) by decide)] at H; exact H
    clear H
    have H := H1
    clear H1
    have H' := Aside0.mk H
    clear H
    obtain ⟨hcz14_0, hcz14_1, hcz14_2, hcz14_3, hfz14_0, hfz14_1, hfz14_2, hfz14_3⟩ := zc4 BK183.out
    go_wp2_with (first | (go_at_call 69; (with_reducible refine (spec_l01In.calls a0_0 0 1000000 false _ A8.out).mono ?_); rintro e w' ⟨rfl, ⟨nd, rfl⟩⟩))
    go_meet
    case rel => exact ⟨_, (true), (by first | rfl | (simp; done) | (simp [*]; done)), H', ⟨by first | omega | exact Nat.le_refl _⟩, ⟨kx BK183.out⟩, ⟨zb1 HB.out GE183.out⟩⟩
  ·replace c7 := Bool.eq_false_iff.mpr c7
   subst c7
   have H1 : (spec_SnapText.j0 k t184 true a0_0 a0_1 l0_2 a0_3) = some (r1, r2) := by rw [if_neg (show ¬ (false = true) by decide)] at H; exact H
   clear H
   have H := H1
   clear H1
   have H' := Aside0.mk H
   clear H
   go_wp2
   go_meet
   case rel => exact ⟨_, (true), (by first | rfl | (simp; done) | (simp [*]; done)), H', ⟨by first | omega | exact Nat.le_refl _⟩, ⟨kx BK183.out⟩, ⟨zb1 HB.out GE183.out⟩⟩
 case rest =>
  clear HC3
  try clear c1
  try clear p2
  try clear c7
  try clear c9
  try clear c10
  try clear c11
  try clear hcz12_0
  try clear hcz12_1
  try clear hcz12_2
  try clear hcz12_3
  try clear hcz13_0
  try clear hcz13_1
  try clear hcz13_2
  try clear hcz13_3
  try clear hcz14_0
  try clear hcz14_1
  try clear hcz14_2
  try clear hcz14_3
  try clear hcz5_0
  try clear hcz5_1
  try clear hcz5_2
  try clear hcz5_3
  try clear hfz12_0
  try clear hfz12_1
  try clear hfz12_2
  try clear hfz12_3
  try clear hfz13_0
  try clear hfz13_1
  try clear hfz13_2
  try clear hfz13_3
  try clear hfz14_0
  try clear hfz14_1
  try clear hfz14_2
  try clear hfz14_3
  try clear hfz5_0
  try clear hfz5_1
  try clear hfz5_2
  try clear hfz5_3
  obtain ⟨kq, x32_2, rfl, HA, HJ2, BK183, HB⟩ := hcut
  cases kq with
  | zero => exact absurd HA.out (by simp [spec_SnapText.j0])
  | succ kj2 =>
   have H := HA.out
   clear HA
   simp only [spec_SnapText.j0] at H
   by_cases c15 : x32_2 = true
   ·subst c15
    have H1 : (some ((⟨#[]⟩ : ByteArray), false)) = some (r1, r2) := by rw [if_pos rfl] at H; exact H
    clear H
    have H := H1
    clear H1
    simp only [Option.some.injEq, Prod.mk.injEq] at H
    obtain ⟨rfl, rfl⟩ := H
    go_wp2
    go_ret2
    exact ⟨by first | rfl | (simp [errW_none, errW_some] <;> rfl) | (simp [*, errW_none, errW_some] <;> rfl), zb1 HB.out GE183.out⟩
   ·replace c15 := Bool.eq_false_iff.mpr c15
    subst c15
    have H1 : ((spec_l01Var.f kj2 a0_0).bind fun t188 => ((spec_l01Var.f kj2 a0_1).bind fun t189 => (if t188.size + t189.size ≤ 9223372036854775807 then ((spec_l05Short.f kj2 t184).bind fun t190 => (if (t188 ++ t189).size + t190.size ≤ 9223372036854775807 then ((spec_l05Short.f kj2 a0_3).bind fun t191 => (if ((t188 ++ t189) ++ t190).size + t191.size ≤ 9223372036854775807 then (if (wrap64 (((((t188 ++ t189) ++ t190) ++ t191).size : Int) + 4)) > 20000 then (some ((⟨#[]⟩ : ByteArray), false)) else ((spec_Sealed.f kj2 (((t188 ++ t189) ++ t190) ++ t191)).bind fun bt192 => (some (bt192.1, bt192.2)))) else (none))) else (none))) else (none)))) = some (r1, r2) := by rw [if_neg (show ¬ (false = true) by decide)] at H; exact H
    clear H
    have H := H1
    clear H1
    replace H := Option.bind_eq_some_iff.mp H
    obtain ⟨t188, A160, H⟩ := H
    try dsimp only at H
    have A16 := Aside0.mk A160
    clear A160
    replace H := Option.bind_eq_some_iff.mp H
    obtain ⟨t189, A170, H⟩ := H
    try dsimp only at H
    have A17 := Aside0.mk A170
    clear A170
    by_cases c18 : t188.size + t189.size ≤ 9223372036854775807
    ·rw [if_pos c18] at H
     have c18b0 := eq_true c18
     have c18b1 : decide (t188.size + t189.size ≤ 9223372036854775807) = true := decide_eq_true c18
     try have c18b2 : (9223372036854775807 < t188.size + t189.size) = False := eq_false (Nat.not_lt.2 c18)
     replace H := Option.bind_eq_some_iff.mp H
     obtain ⟨t190, A190, H⟩ := H
     try dsimp only at H
     have A19 := Aside0.mk A190
     clear A190
     by_cases c20 : (t188 ++ t189).size + t190.size ≤ 9223372036854775807
     ·rw [if_pos c20] at H
      have c20b0 := eq_true c20
      have c20b1 : decide ((t188 ++ t189).size + t190.size ≤ 9223372036854775807) = true := decide_eq_true c20
      try have c20b3 : (9223372036854775807 < t188.size + t189.size + t190.size) = False := eq_false (by have h_ := c20; rw [Nat.not_lt]; simp only [ByteArray.size_append] at h_; first | exact h_ | (simp at h_; omega) | omega)
      try have c20b2 : (9223372036854775807 < (t188 ++ t189).size + t190.size) = False := eq_false (Nat.not_lt.2 c20)
      replace H := Option.bind_eq_some_iff.mp H
      obtain ⟨t191, A210, H⟩ := H
      try dsimp only at H
      have A21 := Aside0.mk A210
      clear A210
      by_cases c22 : ((t188 ++ t189) ++ t190).size + t191.size ≤ 9223372036854775807
      ·rw [if_pos c22] at H
       have c22b0 := eq_true c22
       have c22b1 : decide (((t188 ++ t189) ++ t190).size + t191.size ≤ 9223372036854775807) = true := decide_eq_true c22
       try have c22b3 : (9223372036854775807 < t188.size + t189.size + t190.size + t191.size) = False := eq_false (by have h_ := c22; rw [Nat.not_lt]; simp only [ByteArray.size_append] at h_; first | exact h_ | (simp at h_; omega) | omega)
       try have c22b2 : (9223372036854775807 < ((t188 ++ t189) ++ t190).size + t191.size) = False := eq_false (Nat.not_lt.2 c22)
       by_cases c23 : (wrap64 (((((t188 ++ t189) ++ t190) ++ t191).size : Int) + 4)) > 20000
       ·rw [if_pos c23] at H
        have c23b0 : decide (20000 < (wrap64 (((((t188 ++ t189) ++ t190) ++ t191).size : Int) + 4))) = true := decide_eq_true c23
        have c23b1 : decide (20000 < wrap64 ((t188.size : Int) + (t189.size : Int) + (t190.size : Int) + (t191.size : Int) + 4)) = true := by have h_ := c23b0; simp only [ByteArray.size_append, Int.natCast_add] at h_; exact h_
        clear c23
        simp only [Option.some.injEq, Prod.mk.injEq] at H
        obtain ⟨rfl, rfl⟩ := H
        try go_wp2
        replace BK183 := am (blk_drew BK183.out)
        replace HB := am (below_drew1 HB.out)
        refine start_ (n := 15) (S := fun w' => w'.cell? ⟨gb183, 0, none⟩ = some (.int .i64 a0_0) ∧ w'.cell? ⟨gb183, 1, none⟩ = some (.int .i64 a0_1) ∧ w'.cell? ⟨gb183, 2, none⟩ = some (.slice A0_2 l0_2.length c0_2) ∧ w'.cell? ⟨gb183, 3, none⟩ = some (.string a0_3)) (ds := []) #[false, false, false, false, false, false, false, false, false, false, false, false, false, false, false] (by kernel_rfl) rfl rfl ⟨ct BK183.out 0, ct BK183.out 1, ct BK183.out 2, ct BK183.out 3⟩ (fun hHeld => ?_); refine with_tabW spec_SnapText.tab4 spec_SnapText.bits4 (fun HT_ HW_ => ?_)
        generalize wc.drew = w24 at BK183 HB hHeld ⊢
        refine pure_ (i := 0) (N := some 33) (v := ?_) (a' := ?_) #[true, false, false, false, false, false, false, false, false, false, false, false, false, false, false] rfl rfl (any_of HT_.out (by kernel_rfl)) (fun _ _ _ h => h) (Or.inl ⟨by rfl, ?_⟩) ?_ ?_
        rotate_left
        ·intro w'
         go_simp
         with_reducible rfl
        rotate_left
        ·simp only [Act.put, List.setIfInBounds_toArray, List.set_cons_zero, List.set_cons_succ, i64_w, i32_w]
         rfl
        refine pure_ (i := 3) (N := some 36) (v := ?_) (a' := ?_) #[true, false, false, true, false, false, false, false, false, false, false, false, false, false, false] rfl rfl (any_of HT_.out (by kernel_rfl)) (fun _ _ _ h => h) (Or.inl ⟨by rfl, ?_⟩) ?_ ?_
        rotate_left
        ·intro w'
         go_simp
         with_reducible rfl
        rotate_left
        ·simp only [Act.put, List.setIfInBounds_toArray, List.set_cons_zero, List.set_cons_succ, i64_w, i32_w]
         rfl
        refine pure_ (i := 7) (N := some 40) (v := ?_) (a' := ?_) #[true, false, false, true, false, false, false, true, false, false, false, false, false, false, false] rfl rfl (any_of HT_.out (by kernel_rfl)) (fun _ _ _ h => h) (Or.inl ⟨by rfl, ?_⟩) ?_ ?_
        rotate_left
        ·intro w'
         go_simp
         with_reducible rfl
        rotate_left
        ·simp only [Act.put, List.setIfInBounds_toArray, List.set_cons_zero, List.set_cons_succ, i64_w, i32_w]
         rfl
        refine pure_ (i := 10) (N := some 43) (v := ?_) (a' := ?_) #[true, false, false, true, false, false, false, true, false, false, true, false, false, false, false] rfl rfl (any_of HT_.out (by kernel_rfl)) (fun _ _ _ h => h) (Or.inl ⟨by rfl, ?_⟩) ?_ ?_
        rotate_left
        ·intro w'
         go_simp
         with_reducible rfl
        rotate_left
        ·simp only [Act.put, List.setIfInBounds_toArray, List.set_cons_zero, List.set_cons_succ, i64_w, i32_w]
         rfl
        refine take_ (i := 1) (N := some 34) (v := ?_) (a' := ?_) #[true, true, false, true, false, false, false, true, false, false, true, false, false, false, false] rfl rfl (take_ofW HT_.out HW_.out (by kernel_rfl)) (fun _ _ _ h => h) (Or.inl ⟨by rfl, ?_⟩) hHeld ?_ ?_
        rotate_left
        ·rintro w' ⟨s0, s1, s2, s3⟩
         go_simp
         with_reducible rfl
        rotate_left
        ·simp only [Act.put, List.setIfInBounds_toArray, List.set_cons_zero, List.set_cons_succ, i64_w, i32_w]
         rfl
        refine take_ (i := 4) (N := some 37) (v := ?_) (a' := ?_) #[true, true, false, true, true, false, false, true, false, false, true, false, false, false, false] rfl rfl (take_ofW HT_.out HW_.out (by kernel_rfl)) (fun _ _ _ h => h) (Or.inl ⟨by rfl, ?_⟩) hHeld ?_ ?_
        rotate_left
        ·rintro w' ⟨s0, s1, s2, s3⟩
         go_simp
         with_reducible rfl
        rotate_left
        ·simp only [Act.put, List.setIfInBounds_toArray, List.set_cons_zero, List.set_cons_succ, i64_w, i32_w]
         rfl
        refine take_ (i := 11) (N := some 44) (v := ?_) (a' := ?_) #[true, true, false, true, true, false, false, true, false, false, true, true, false, false, false] rfl rfl (take_ofW HT_.out HW_.out (by kernel_rfl)) (fun _ _ _ h => h) (Or.inl ⟨by rfl, ?_⟩) hHeld ?_ ?_
        rotate_left
        ·rintro w' ⟨s0, s1, s2, s3⟩
         go_simp
         with_reducible rfl
        rotate_left
        ·simp only [Act.put, List.setIfInBounds_toArray, List.set_cons_zero, List.set_cons_succ, i64_w, i32_w]
         rfl
        refine one_ (i := 2) (N := some 35) #[true, true, true, true, true, false, false, true, false, false, true, true, false, false, false] rfl rfl (one_of HT_.out (by kernel_rfl)) (by decide) (fun K hK => ?_)
        refine goes_ Tryd.func101 (by kernel_rfl) rfl #[.int .i64 a0_0] (by rfl) rfl rfl zr ?_
        with_reducible refine (spec_l01Var.calls kj2 a0_0 t188 _ A16.out).mono ?_
        rintro e w25 ⟨rfl, hb⟩
        refine ⟨_, rfl, ?_⟩
        replace BK183 := am (bb hb (kx BK183.out))
        replace HB := am (below_step (zb1 HB.out GE183.out) hb)
        (try clear hb)
        (try clear hb2)
        (try clear hk)
        (try clear hi)
        refine hK.out _ _ ⟨ct BK183.out 0, ct BK183.out 1, ct BK183.out 2, ct BK183.out 3⟩ (fun hHeld => ?_)
        clear hK K
        refine norm_ (a' := ?_) ?_ ?_
        rotate_left
        ·show Act.put _ (some 35) _ = _
         simp only [Act.put, List.setIfInBounds_toArray, List.set_cons_zero, List.set_cons_succ, i64_w, i32_w]
         rfl
        refine one_ (i := 5) (N := some 38) #[true, true, true, true, true, true, false, true, false, false, true, true, false, false, false] rfl rfl (one_of HT_.out (by kernel_rfl)) (by decide) (fun K hK => ?_)
        refine goes_ Tryd.func101 (by kernel_rfl) rfl #[.int .i64 a0_1] (by rfl) rfl rfl zr ?_
        with_reducible refine (spec_l01Var.calls kj2 a0_1 t189 _ A17.out).mono ?_
        rintro e w26 ⟨rfl, hb⟩
        refine ⟨_, rfl, ?_⟩
        replace BK183 := am (bb hb (kx BK183.out))
        replace HB := am (below_step (zb1 HB.out GE183.out) hb)
        (try clear hb)
        (try clear hb2)
        (try clear hk)
        (try clear hi)
        refine hK.out _ _ ⟨ct BK183.out 0, ct BK183.out 1, ct BK183.out 2, ct BK183.out 3⟩ (fun hHeld => ?_)
        clear hK K
        refine norm_ (a' := ?_) ?_ ?_
        rotate_left
        ·show Act.put _ (some 38) _ = _
         simp only [Act.put, List.setIfInBounds_toArray, List.set_cons_zero, List.set_cons_succ, i64_w, i32_w]
         rfl
        refine pure_ (i := 6) (N := some 39) (v := ?_) (a' := ?_) #[true, true, true, true, true, true, true, true, false, false, true, true, false, false, false] rfl rfl (any_of HT_.out (by kernel_rfl)) (fun _ _ _ h => h) (Or.inl ⟨by rfl, ?_⟩) ?_ ?_
        rotate_left
        ·intro w'
         go_simp
         with_reducible rfl
        rotate_left
        ·simp only [Act.put, List.setIfInBounds_toArray, List.set_cons_zero, List.set_cons_succ, i64_w, i32_w]
         rfl
        refine one_ (i := 8) (N := some 41) #[true, true, true, true, true, true, true, true, true, false, true, true, false, false, false] rfl rfl (one_of HT_.out (by kernel_rfl)) (by decide) (fun K hK => ?_)
        refine goes_ Tryd.func102 (by kernel_rfl) rfl #[.string t184] (by rfl) rfl rfl zr ?_
        with_reducible refine (spec_l05Short.calls kj2 t184 t190 _ A19.out).mono ?_
        rintro e w27 ⟨rfl, hb⟩
        refine ⟨_, rfl, ?_⟩
        replace BK183 := am (bb hb (kx BK183.out))
        replace HB := am (below_step (zb1 HB.out GE183.out) hb)
        (try clear hb)
        (try clear hb2)
        (try clear hk)
        (try clear hi)
        refine hK.out _ _ ⟨ct BK183.out 0, ct BK183.out 1, ct BK183.out 2, ct BK183.out 3⟩ (fun hHeld => ?_)
        clear hK K
        refine norm_ (a' := ?_) ?_ ?_
        rotate_left
        ·show Act.put _ (some 41) _ = _
         simp only [Act.put, List.setIfInBounds_toArray, List.set_cons_zero, List.set_cons_succ, i64_w, i32_w]
         rfl
        refine pure_ (i := 9) (N := some 42) (v := ?_) (a' := ?_) #[true, true, true, true, true, true, true, true, true, true, true, true, false, false, false] rfl rfl (any_of HT_.out (by kernel_rfl)) (fun _ _ _ h => h) (Or.inl ⟨by rfl, ?_⟩) ?_ ?_
        rotate_left
        ·intro w'
         go_simp
         with_reducible rfl
        rotate_left
        ·simp only [Act.put, List.setIfInBounds_toArray, List.set_cons_zero, List.set_cons_succ, i64_w, i32_w]
         rfl
        refine one_ (i := 12) (N := some 45) #[true, true, true, true, true, true, true, true, true, true, true, true, true, false, false] rfl rfl (one_of HT_.out (by kernel_rfl)) (by decide) (fun K hK => ?_)
        refine goes_ Tryd.func102 (by kernel_rfl) rfl #[.string a0_3] (by rfl) rfl rfl zr ?_
        with_reducible refine (spec_l05Short.calls kj2 a0_3 t191 _ A21.out).mono ?_
        rintro e w28 ⟨rfl, hb⟩
        refine ⟨_, rfl, ?_⟩
        replace BK183 := am (bb hb (kx BK183.out))
        replace HB := am (below_step (zb1 HB.out GE183.out) hb)
        (try clear hb)
        (try clear hb2)
        (try clear hk)
        (try clear hi)
        refine hK.out _ _ ⟨ct BK183.out 0, ct BK183.out 1, ct BK183.out 2, ct BK183.out 3⟩ (fun hHeld => ?_)
        clear hK K
        refine norm_ (a' := ?_) ?_ ?_
        rotate_left
        ·show Act.put _ (some 45) _ = _
         simp only [Act.put, List.setIfInBounds_toArray, List.set_cons_zero, List.set_cons_succ, i64_w, i32_w]
         rfl
        refine pure_ (i := 13) (N := some 46) (v := ?_) (a' := ?_) #[true, true, true, true, true, true, true, true, true, true, true, true, true, true, false] rfl rfl (any_of HT_.out (by kernel_rfl)) (fun _ _ _ h => h) (Or.inl ⟨by rfl, ?_⟩) ?_ ?_
        rotate_left
        ·intro w'
         go_simp
         with_reducible rfl
        rotate_left
        ·simp only [Act.put, List.setIfInBounds_toArray, List.set_cons_zero, List.set_cons_succ, i64_w, i32_w]
         rfl
        refine pure_ (i := 14) (N := some 6) (v := ?_) (a' := ?_) #[true, true, true, true, true, true, true, true, true, true, true, true, true, true, true] rfl rfl (any_of HT_.out (by kernel_rfl)) (fun _ _ _ h => h) (Or.inl ⟨by rfl, ?_⟩) ?_ ?_
        rotate_left
        ·intro w'
         go_simp
         with_reducible rfl
        rotate_left
        ·simp only [Act.put, List.setIfInBounds_toArray, List.set_cons_zero, List.set_cons_succ, i64_w, i32_w]
         rfl
        refine done_ (done_of HT_.out (by kernel_rfl)) ?_
        try go_wp2
        go_ret2
        exact ⟨by first | rfl | (simp [errW_none, errW_some] <;> rfl) | (simp [*, errW_none, errW_some] <;> rfl), zb1 HB.out GE183.out⟩
       ·rw [if_neg c23] at H
        have c23b0 : decide (20000 < (wrap64 (((((t188 ++ t189) ++ t190) ++ t191).size : Int) + 4))) = false := decide_eq_false c23
        have c23b1 : decide (20000 < wrap64 ((t188.size : Int) + (t189.size : Int) + (t190.size : Int) + (t191.size : Int) + 4)) = false := by have h_ := c23b0; simp only [ByteArray.size_append, Int.natCast_add] at h_; exact h_
        clear c23
        replace H := Option.bind_eq_some_iff.mp H
        obtain ⟨⟨t192, t193⟩, A290, H⟩ := H
        try dsimp only at H
        have A29 := Aside0.mk A290
        clear A290
        simp only [Option.some.injEq, Prod.mk.injEq] at H
        obtain ⟨rfl, rfl⟩ := H
        try go_wp2
        replace BK183 := am (blk_drew BK183.out)
        replace HB := am (below_drew1 HB.out)
        refine start_ (n := 15) (S := fun w' => w'.cell? ⟨gb183, 0, none⟩ = some (.int .i64 a0_0) ∧ w'.cell? ⟨gb183, 1, none⟩ = some (.int .i64 a0_1) ∧ w'.cell? ⟨gb183, 2, none⟩ = some (.slice A0_2 l0_2.length c0_2) ∧ w'.cell? ⟨gb183, 3, none⟩ = some (.string a0_3)) (ds := []) #[false, false, false, false, false, false, false, false, false, false, false, false, false, false, false] (by kernel_rfl) rfl rfl ⟨ct BK183.out 0, ct BK183.out 1, ct BK183.out 2, ct BK183.out 3⟩ (fun hHeld => ?_); refine with_tabW spec_SnapText.tab4 spec_SnapText.bits4 (fun HT_ HW_ => ?_)
        generalize wc.drew = w30 at BK183 HB hHeld ⊢
        refine pure_ (i := 0) (N := some 33) (v := ?_) (a' := ?_) #[true, false, false, false, false, false, false, false, false, false, false, false, false, false, false] rfl rfl (any_of HT_.out (by kernel_rfl)) (fun _ _ _ h => h) (Or.inl ⟨by rfl, ?_⟩) ?_ ?_
        rotate_left
        ·intro w'
         go_simp
         with_reducible rfl
        rotate_left
        ·simp only [Act.put, List.setIfInBounds_toArray, List.set_cons_zero, List.set_cons_succ, i64_w, i32_w]
         rfl
        refine pure_ (i := 3) (N := some 36) (v := ?_) (a' := ?_) #[true, false, false, true, false, false, false, false, false, false, false, false, false, false, false] rfl rfl (any_of HT_.out (by kernel_rfl)) (fun _ _ _ h => h) (Or.inl ⟨by rfl, ?_⟩) ?_ ?_
        rotate_left
        ·intro w'
         go_simp
         with_reducible rfl
        rotate_left
        ·simp only [Act.put, List.setIfInBounds_toArray, List.set_cons_zero, List.set_cons_succ, i64_w, i32_w]
         rfl
        refine pure_ (i := 7) (N := some 40) (v := ?_) (a' := ?_) #[true, false, false, true, false, false, false, true, false, false, false, false, false, false, false] rfl rfl (any_of HT_.out (by kernel_rfl)) (fun _ _ _ h => h) (Or.inl ⟨by rfl, ?_⟩) ?_ ?_
        rotate_left
        ·intro w'
         go_simp
         with_reducible rfl
        rotate_left
        ·simp only [Act.put, List.setIfInBounds_toArray, List.set_cons_zero, List.set_cons_succ, i64_w, i32_w]
         rfl
        refine pure_ (i := 10) (N := some 43) (v := ?_) (a' := ?_) #[true, false, false, true, false, false, false, true, false, false, true, false, false, false, false] rfl rfl (any_of HT_.out (by kernel_rfl)) (fun _ _ _ h => h) (Or.inl ⟨by rfl, ?_⟩) ?_ ?_
        rotate_left
        ·intro w'
         go_simp
         with_reducible rfl
        rotate_left
        ·simp only [Act.put, List.setIfInBounds_toArray, List.set_cons_zero, List.set_cons_succ, i64_w, i32_w]
         rfl
        refine take_ (i := 1) (N := some 34) (v := ?_) (a' := ?_) #[true, true, false, true, false, false, false, true, false, false, true, false, false, false, false] rfl rfl (take_ofW HT_.out HW_.out (by kernel_rfl)) (fun _ _ _ h => h) (Or.inl ⟨by rfl, ?_⟩) hHeld ?_ ?_
        rotate_left
        ·rintro w' ⟨s0, s1, s2, s3⟩
         go_simp
         with_reducible rfl
        rotate_left
        ·simp only [Act.put, List.setIfInBounds_toArray, List.set_cons_zero, List.set_cons_succ, i64_w, i32_w]
         rfl
        refine take_ (i := 4) (N := some 37) (v := ?_) (a' := ?_) #[true, true, false, true, true, false, false, true, false, false, true, false, false, false, false] rfl rfl (take_ofW HT_.out HW_.out (by kernel_rfl)) (fun _ _ _ h => h) (Or.inl ⟨by rfl, ?_⟩) hHeld ?_ ?_
        rotate_left
        ·rintro w' ⟨s0, s1, s2, s3⟩
         go_simp
         with_reducible rfl
        rotate_left
        ·simp only [Act.put, List.setIfInBounds_toArray, List.set_cons_zero, List.set_cons_succ, i64_w, i32_w]
         rfl
        refine take_ (i := 11) (N := some 44) (v := ?_) (a' := ?_) #[true, true, false, true, true, false, false, true, false, false, true, true, false, false, false] rfl rfl (take_ofW HT_.out HW_.out (by kernel_rfl)) (fun _ _ _ h => h) (Or.inl ⟨by rfl, ?_⟩) hHeld ?_ ?_
        rotate_left
        ·rintro w' ⟨s0, s1, s2, s3⟩
         go_simp
         with_reducible rfl
        rotate_left
        ·simp only [Act.put, List.setIfInBounds_toArray, List.set_cons_zero, List.set_cons_succ, i64_w, i32_w]
         rfl
        refine one_ (i := 2) (N := some 35) #[true, true, true, true, true, false, false, true, false, false, true, true, false, false, false] rfl rfl (one_of HT_.out (by kernel_rfl)) (by decide) (fun K hK => ?_)
        refine goes_ Tryd.func101 (by kernel_rfl) rfl #[.int .i64 a0_0] (by rfl) rfl rfl zr ?_
        with_reducible refine (spec_l01Var.calls kj2 a0_0 t188 _ A16.out).mono ?_
        rintro e w31 ⟨rfl, hb⟩
        refine ⟨_, rfl, ?_⟩
        replace BK183 := am (bb hb (kx BK183.out))
        replace HB := am (below_step (zb1 HB.out GE183.out) hb)
        (try clear hb)
        (try clear hb2)
        (try clear hk)
        (try clear hi)
        refine hK.out _ _ ⟨ct BK183.out 0, ct BK183.out 1, ct BK183.out 2, ct BK183.out 3⟩ (fun hHeld => ?_)
        clear hK K
        refine norm_ (a' := ?_) ?_ ?_
        rotate_left
        ·show Act.put _ (some 35) _ = _
         simp only [Act.put, List.setIfInBounds_toArray, List.set_cons_zero, List.set_cons_succ, i64_w, i32_w]
         rfl
        refine one_ (i := 5) (N := some 38) #[true, true, true, true, true, true, false, true, false, false, true, true, false, false, false] rfl rfl (one_of HT_.out (by kernel_rfl)) (by decide) (fun K hK => ?_)
        refine goes_ Tryd.func101 (by kernel_rfl) rfl #[.int .i64 a0_1] (by rfl) rfl rfl zr ?_
        with_reducible refine (spec_l01Var.calls kj2 a0_1 t189 _ A17.out).mono ?_
        rintro e w32 ⟨rfl, hb⟩
        refine ⟨_, rfl, ?_⟩
        replace BK183 := am (bb hb (kx BK183.out))
        replace HB := am (below_step (zb1 HB.out GE183.out) hb)
        (try clear hb)
        (try clear hb2)
        (try clear hk)
        (try clear hi)
        refine hK.out _ _ ⟨ct BK183.out 0, ct BK183.out 1, ct BK183.out 2, ct BK183.out 3⟩ (fun hHeld => ?_)
        clear hK K
        refine norm_ (a' := ?_) ?_ ?_
        rotate_left
        ·show Act.put _ (some 38) _ = _
         simp only [Act.put, List.setIfInBounds_toArray, List.set_cons_zero, List.set_cons_succ, i64_w, i32_w]
         rfl
        refine pure_ (i := 6) (N := some 39) (v := ?_) (a' := ?_) #[true, true, true, true, true, true, true, true, false, false, true, true, false, false, false] rfl rfl (any_of HT_.out (by kernel_rfl)) (fun _ _ _ h => h) (Or.inl ⟨by rfl, ?_⟩) ?_ ?_
        rotate_left
        ·intro w'
         go_simp
         with_reducible rfl
        rotate_left
        ·simp only [Act.put, List.setIfInBounds_toArray, List.set_cons_zero, List.set_cons_succ, i64_w, i32_w]
         rfl
        refine one_ (i := 8) (N := some 41) #[true, true, true, true, true, true, true, true, true, false, true, true, false, false, false] rfl rfl (one_of HT_.out (by kernel_rfl)) (by decide) (fun K hK => ?_)
        refine goes_ Tryd.func102 (by kernel_rfl) rfl #[.string t184] (by rfl) rfl rfl zr ?_
        with_reducible refine (spec_l05Short.calls kj2 t184 t190 _ A19.out).mono ?_
        rintro e w33 ⟨rfl, hb⟩
        refine ⟨_, rfl, ?_⟩
        replace BK183 := am (bb hb (kx BK183.out))
        replace HB := am (below_step (zb1 HB.out GE183.out) hb)
        (try clear hb)
        (try clear hb2)
        (try clear hk)
        (try clear hi)
        refine hK.out _ _ ⟨ct BK183.out 0, ct BK183.out 1, ct BK183.out 2, ct BK183.out 3⟩ (fun hHeld => ?_)
        clear hK K
        refine norm_ (a' := ?_) ?_ ?_
        rotate_left
        ·show Act.put _ (some 41) _ = _
         simp only [Act.put, List.setIfInBounds_toArray, List.set_cons_zero, List.set_cons_succ, i64_w, i32_w]
         rfl
        refine pure_ (i := 9) (N := some 42) (v := ?_) (a' := ?_) #[true, true, true, true, true, true, true, true, true, true, true, true, false, false, false] rfl rfl (any_of HT_.out (by kernel_rfl)) (fun _ _ _ h => h) (Or.inl ⟨by rfl, ?_⟩) ?_ ?_
        rotate_left
        ·intro w'
         go_simp
         with_reducible rfl
        rotate_left
        ·simp only [Act.put, List.setIfInBounds_toArray, List.set_cons_zero, List.set_cons_succ, i64_w, i32_w]
         rfl
        refine one_ (i := 12) (N := some 45) #[true, true, true, true, true, true, true, true, true, true, true, true, true, false, false] rfl rfl (one_of HT_.out (by kernel_rfl)) (by decide) (fun K hK => ?_)
        refine goes_ Tryd.func102 (by kernel_rfl) rfl #[.string a0_3] (by rfl) rfl rfl zr ?_
        with_reducible refine (spec_l05Short.calls kj2 a0_3 t191 _ A21.out).mono ?_
        rintro e w34 ⟨rfl, hb⟩
        refine ⟨_, rfl, ?_⟩
        replace BK183 := am (bb hb (kx BK183.out))
        replace HB := am (below_step (zb1 HB.out GE183.out) hb)
        (try clear hb)
        (try clear hb2)
        (try clear hk)
        (try clear hi)
        refine hK.out _ _ ⟨ct BK183.out 0, ct BK183.out 1, ct BK183.out 2, ct BK183.out 3⟩ (fun hHeld => ?_)
        clear hK K
        refine norm_ (a' := ?_) ?_ ?_
        rotate_left
        ·show Act.put _ (some 45) _ = _
         simp only [Act.put, List.setIfInBounds_toArray, List.set_cons_zero, List.set_cons_succ, i64_w, i32_w]
         rfl
        refine pure_ (i := 13) (N := some 46) (v := ?_) (a' := ?_) #[true, true, true, true, true, true, true, true, true, true, true, true, true, true, false] rfl rfl (any_of HT_.out (by kernel_rfl)) (fun _ _ _ h => h) (Or.inl ⟨by rfl, ?_⟩) ?_ ?_
        rotate_left
        ·intro w'
         go_simp
         with_reducible rfl
        rotate_left
        ·simp only [Act.put, List.setIfInBounds_toArray, List.set_cons_zero, List.set_cons_succ, i64_w, i32_w]
         rfl
        refine pure_ (i := 14) (N := some 6) (v := ?_) (a' := ?_) #[true, true, true, true, true, true, true, true, true, true, true, true, true, true, true] rfl rfl (any_of HT_.out (by kernel_rfl)) (fun _ _ _ h => h) (Or.inl ⟨by rfl, ?_⟩) ?_ ?_
        rotate_left
        ·intro w'
         go_simp
         with_reducible rfl
        rotate_left
        ·simp only [Act.put, List.setIfInBounds_toArray, List.set_cons_zero, List.set_cons_succ, i64_w, i32_w]
         rfl
        refine done_ (done_of HT_.out (by kernel_rfl)) ?_
        try go_wp2_with (first | ((with_reducible refine gate_callee (f := 103) rfl ?_); refine goesL_ (some 52) rfl rfl Tryd.func103 (by kernel_rfl) rfl #[.string (((t188 ++ t189) ++ t190) ++ t191)] rfl zr ?_; (with_reducible refine (spec_Sealed.calls kj2 (((t188 ++ t189) ++ t190) ++ t191) t192 t193 _ A29.out).mono ?_); rintro e w35 ⟨rfl, hb⟩; refine ⟨_, rfl, ?_⟩; replace BK183 := am (bb hb (kx BK183.out)); replace HB := am (below_step (zb1 HB.out GE183.out) hb); (try clear hb); (try clear hb2); (try clear hk); (try clear hi)))
        go_ret2
        exact ⟨by first | rfl | (simp [errW_none, errW_some] <;> rfl) | (simp [*, errW_none, errW_some] <;> rfl), zb1 HB.out GE183.out⟩
      ·rw [if_neg c22] at H
       exact absurd H (by simp)
     ·rw [if_neg c20] at H
      exact absurd H (by simp)
    ·rw [if_neg c18] at H
     exact absurd H (by simp)

/-! ### spec_ReadSnap: function 49, by hand -/ -- rounds making
/-- What stands while ReadSnap goes on: the cursor in block g, the snapshot to be answered (nothing yet) in b1, the snapshot that is read in b3. -/
structure spec_ReadSnap.Inv (w W : World) (b1 g b3 : Nat) (t : ByteArray) (a : Int) (bad : Bool) (x y : Int) (u : Value) (z : ByteArray) : Prop where
 st : IsS96 w W g t a bad
 r1 : W.heap[b1]? = some (.cells #[.int .i64 0, .int .i64 0, .slice none 0 0, .string ⟨#[]⟩] 48 (0, 0))
 e3 : W.heap[b3]? = some (.cells #[.int .i64 x, .int .i64 y, u, .string z] 48 (0, 0))
 bl : Below w.heap.size w W
 g1 : w.heap.size ≤ b1
 g3 : w.heap.size ≤ b3
 n1 : b1 ≠ g
 n3 : b3 ≠ g
 n13 : b1 ≠ b3
theorem spec_ReadSnap.Inv.call {w W W' : World} {b1 g b3 : Nat} {t t' : ByteArray} {a a' : Int} {bad bad' : Bool} {x y : Int} {u : Value} {z : ByteArray} (h : spec_ReadSnap.Inv w W b1 g b3 t a bad x y u z) (hs : IsS96 w W' g t' a' bad') (hb : Below w.heap.size w W') (hk : KeepBut W W' g none) : spec_ReadSnap.Inv w W' b1 g b3 t' a' bad' x y u z := ⟨hs, hk.blk h.r1 h.n1 (by simp), hk.blk h.e3 h.n3 (by simp), hb, h.g1, h.g3, h.n1, h.n3, h.n13⟩
theorem spec_ReadSnap.Inv.below {w W W' : World} {b1 g b3 : Nat} {t : ByteArray} {a : Int} {bad : Bool} {x y : Int} {u : Value} {z : ByteArray} (h : spec_ReadSnap.Inv w W b1 g b3 t a bad x y u z) (hb : Below W.heap.size W W') : spec_ReadSnap.Inv w W' b1 g b3 t a bad x y u z := ⟨h.st.below hb, blk_below h.r1 hb, blk_below h.e3 hb, below_step h.bl hb, h.g1, h.g3, h.n1, h.n3, h.n13⟩
theorem spec_ReadSnap.Inv.set0 {w W : World} {b1 g b3 : Nat} {t : ByteArray} {a : Int} {bad : Bool} {x y : Int} {u : Value} {z : ByteArray} (h : spec_ReadSnap.Inv w W b1 g b3 t a bad x y u z) (v : Int) : spec_ReadSnap.Inv w (W.setCell ⟨b3, 0, none⟩ (.int .i64 v)) b1 g b3 t a bad v y u z := ⟨h.st.far (Ne.symm h.n3) _, blk_far h.r1 h.n13 _, blk_put h.e3 0 _ rfl, below_set h.bl h.g3, h.g1, h.g3, h.n1, h.n3, h.n13⟩
theorem spec_ReadSnap.Inv.set1 {w W : World} {b1 g b3 : Nat} {t : ByteArray} {a : Int} {bad : Bool} {x y : Int} {u : Value} {z : ByteArray} (h : spec_ReadSnap.Inv w W b1 g b3 t a bad x y u z) (v : Int) : spec_ReadSnap.Inv w (W.setCell ⟨b3, 1, none⟩ (.int .i64 v)) b1 g b3 t a bad x v u z := ⟨h.st.far (Ne.symm h.n3) _, blk_far h.r1 h.n13 _, blk_put h.e3 1 _ rfl, below_set h.bl h.g3, h.g1, h.g3, h.n1, h.n3, h.n13⟩
theorem spec_ReadSnap.Inv.set2 {w W : World} {b1 g b3 : Nat} {t : ByteArray} {a : Int} {bad : Bool} {x y : Int} {u : Value} {z : ByteArray} (h : spec_ReadSnap.Inv w W b1 g b3 t a bad x y u z) (v : Value) : spec_ReadSnap.Inv w (W.setCell ⟨b3, 2, none⟩ (v)) b1 g b3 t a bad x y v z := ⟨h.st.far (Ne.symm h.n3) _, blk_far h.r1 h.n13 _, blk_put h.e3 2 _ rfl, below_set h.bl h.g3, h.g1, h.g3, h.n1, h.n3, h.n13⟩
theorem spec_ReadSnap.Inv.set3 {w W : World} {b1 g b3 : Nat} {t : ByteArray} {a : Int} {bad : Bool} {x y : Int} {u : Value} {z : ByteArray} (h : spec_ReadSnap.Inv w W b1 g b3 t a bad x y u z) (v : ByteArray) : spec_ReadSnap.Inv w (W.setCell ⟨b3, 3, none⟩ (.string v)) b1 g b3 t a bad x y u v := ⟨h.st.far (Ne.symm h.n3) _, blk_far h.r1 h.n13 _, blk_put h.e3 3 _ rfl, below_set h.bl h.g3, h.g1, h.g3, h.n1, h.n3, h.n13⟩
def spec_ReadSnap.Row (w W : World) (b1 g b3 : Nat) (v : Value) (xs : List Int) : Prop := Kd.R (Kd.int .i64) 3 W w.heap.size (fun k => k ≠ b1 ∧ k ≠ b3 ∧ k ≠ g) v xs
theorem spec_ReadSnap.Row.call {w W W' : World} {b1 g b3 : Nat} {v : Value} {xs : List Int} (h : spec_ReadSnap.Row w W b1 g b3 v xs) (hk : KeepBut W W' g none) : spec_ReadSnap.Row w W' b1 g b3 v xs := Kd.R_keep h hk (fun _ q => q.2.2)
theorem spec_ReadSnap.Row.below {w W W' : World} {b1 g b3 : Nat} {v : Value} {xs : List Int} (h : spec_ReadSnap.Row w W b1 g b3 v xs) (hb : Below W.heap.size W W') : spec_ReadSnap.Row w W' b1 g b3 v xs := Kd.R_below h hb
theorem spec_ReadSnap.Row.sete {w W : World} {b1 g b3 : Nat} {v : Value} {xs : List Int} (h : spec_ReadSnap.Row w W b1 g b3 v xs) (j : Nat) (u : Value) : spec_ReadSnap.Row w (W.setCell ⟨b3, j, none⟩ u) b1 g b3 v xs := Kd.R_far h (fun _ q => q.2.1) u
theorem spec_ReadSnap.Row.setr {w W : World} {b1 g b3 : Nat} {v : Value} {xs : List Int} (h : spec_ReadSnap.Row w W b1 g b3 v xs) (j : Nat) (u : Value) : spec_ReadSnap.Row w (W.setCell ⟨b1, j, none⟩ u) b1 g b3 v xs := Kd.R_far h (fun _ q => q.1) u
theorem spec_ReadSnap.Row.mk_ {w W W' : World} {b1 g b3 : Nat} {t : ByteArray} {a : Int} {bad : Bool} {x y : Int} {u : Value} {z : ByteArray} {v : Value} {xs : List Int} (hi : spec_ReadSnap.Inv w W' b1 g b3 t a bad x y u z) (h : Kd.R (Kd.int .i64) 3 W' W.heap.size (fun _ => True) v xs) (hle : w.heap.size ≤ W.heap.size) : spec_ReadSnap.Row w W' b1 g b3 v xs :=
 Kd.R_mono (Kd.R_types (Kd.R_types (Kd.R_types (Kd.R_lower h hle) hi.r1 (by decide)) hi.e3 (by decide)) hi.st.1 (by decide)) (fun _ q => ⟨q.1.1.2, q.1.2, q.2⟩)
def spec_ReadSnap.f (k : Nat) (a0 : ByteArray) : Option (Int × Int × List Int × ByteArray × Bool) :=
 (spec_Unsealed.f k a0).bind fun p0 => (spec_l05Var.f k p0.1 0 (!p0.2)).bind fun p1 => (spec_l05Var.f k p1.2.1 p1.2.2.1 p1.2.2.2).bind fun p2 => (spec_l05ReadShort.f k p2.2.1 p2.2.2.1 p2.2.2.2).bind fun p3 => (spec_ReadConf.f k p3.1).bind fun q => (spec_l05ReadShort.f k p3.2.1 p3.2.2.1 p3.2.2.2).bind fun p4 =>
 (spec_SnapText.f k p1.1 p2.1 q.1 p4.1).bind fun z => (if p4.2.2.2 = true then some (0, 0, ([] : List Int), (⟨#[]⟩ : ByteArray), false) else (if z.2 = true then (if z.1.toList = a0.toList then some (p1.1, p2.1, q.1, p4.1, true) else some (0, 0, ([] : List Int), (⟨#[]⟩ : ByteArray), false)) else some (0, 0, ([] : List Int), (⟨#[]⟩ : ByteArray), false)))
theorem spec_ReadSnap.mono : ∀ a0 k, LeO (spec_ReadSnap.f k a0) (spec_ReadSnap.f (k + 1) a0) := by
 intro a0 k
 unfold spec_ReadSnap.f
 repeat' first
   | (with_reducible exact spec_Unsealed.mono _ _)
   | (with_reducible exact spec_l05Var.mono _ _ _ _)
   | (with_reducible exact spec_l05ReadShort.mono _ _ _ _)
   | (with_reducible exact spec_ReadConf.mono _ _)
   | (with_reducible exact spec_SnapText.mono _ _ _ _ _)
   | (with_reducible exact LeO.refl _)
   | (with_reducible exact LeO.none _)
   | (with_reducible refine LeO.ite ?_ ?_)
   | (with_reducible refine LeO.bind ?_ (fun _ => ?_))
set_option maxHeartbeats 4000000 in
set_option maxRecDepth 100000 in
theorem spec_ReadSnap.calls (k : Nat) (a0 : ByteArray) (r1 : Int) (r2 : Int) (r3 : List Int) (r4 : ByteArray) (r5 : Bool) (w : World) (h : spec_ReadSnap.f k a0 = some (r1, r2, r3, r4, r5)) :
  Calls Tryd.prog 49 #[.string a0] w fun e w' => ∃ v2_ : Value, e = .returned (.tuple #[.agg #[.int .i64 r1, .int .i64 r2, v2_, .string r4], .bool r5]) ∧ Kd.R (Kd.int .i64) 3 w' w.heap.size (fun _ => True) v2_ r3 ∧ Below w.heap.size w w' := by
 unfold spec_ReadSnap.f at h
 obtain ⟨⟨x0, ok⟩, h0, h⟩ := Option.bind_eq_some_iff.mp h
 obtain ⟨⟨x1, t1, a1, b1⟩, h1, h⟩ := Option.bind_eq_some_iff.mp h
 obtain ⟨⟨x2, t2, a2, b2⟩, h2, h⟩ := Option.bind_eq_some_iff.mp h
 obtain ⟨⟨x3, t3, a3, b3⟩, h3, h⟩ := Option.bind_eq_some_iff.mp h
 obtain ⟨⟨xs, okc⟩, hq, h⟩ := Option.bind_eq_some_iff.mp h
 obtain ⟨⟨x4, t4, a4, b4⟩, h4, h⟩ := Option.bind_eq_some_iff.mp h
 obtain ⟨⟨z, okz⟩, hz, h⟩ := Option.bind_eq_some_iff.mp h
 simp only at h0 h1 h2 h3 h4 hq hz h
 have A0 := Aside0.mk h0
 have A1 := Aside0.mk h1
 have A2 := Aside0.mk h2
 have A3 := Aside0.mk h3
 have A4 := Aside0.mk h4
 have AQ := Aside0.mk hq
 have AZ := Aside0.mk hz
 have H := Aside0.mk h
 clear h0 h1 h2 h3 h4 hq hz h
 have no_ : (some (0, 0, ([] : List Int), (⟨#[]⟩ : ByteArray), false) = some (r1, r2, r3, r4, r5)) → r1 = 0 ∧ r2 = 0 ∧ r3 = [] ∧ r4 = ⟨#[]⟩ ∧ r5 = false := fun h => by simp only [Option.some.injEq, Prod.mk.injEq] at h; exact ⟨h.1.symm, h.2.1.symm, h.2.2.1.symm, h.2.2.2.1.symm, h.2.2.2.2.symm⟩
 have NO := Aside0.mk no_
 clear no_
 go_enter Tryd.func49, Tryd.ntmps49
 go_wp2_with (first | ((with_reducible refine gate_dst (N := 2) rfl ?_); refine box_event ?hg (N := 2) ?hd (cs := #[.int .i64 0, .int .i64 0, .slice none 0 0, .string (⟨#[]⟩ : ByteArray)]) (t := 48) ?hr ?_; (case hd => rfl); (case hg => rfl); (case hr => first | (go_simp; done) | (go_simp; rfl)); intro r hg w_r hbox hb; have Yr := Aside0.mk hbox; have Zr := Aside0.mk hb; have Gr := Aside0.mk hg; clear hbox hb hg) | (go_at_call 71; refine (spec_Unsealed.calls k a0 x0 ok _ A0.out).mono ?_; rintro e_ w_u ⟨rfl, hb⟩; have Yr2 := Aside0.mk (blk_below Yr.out hb); have Zr2 := Aside0.mk (below_step (below_step (Below.refl _ _) Zr.out) hb); clear hb Yr) | ((with_reducible refine gate_dst (N := 19) rfl ?_); refine box_event ?hg (N := 19) ?hd (cs := #[.string x0, .int .i64 0, .bool (!ok)]) (t := 96) ?hr ?_; (case hd => rfl); (case hg => rfl); (case hr => first | (go_simp; done) | (go_simp; rfl)); intro g hg w_g hbox hb; have Yg := Aside0.mk hbox; have Zg := Aside0.mk hb; have Gg := Aside0.mk hg; clear hbox hb hg) | ((with_reducible refine gate_dst (N := 7) rfl ?_); refine box_event ?hg (N := 7) ?hd (cs := #[.int .i64 0, .int .i64 0, .slice none 0 0, .string (⟨#[]⟩ : ByteArray)]) (t := 48) ?hr ?_; (case hd => rfl); (case hg => rfl); (case hr => first | (go_simp; done) | (go_simp; rfl)); intro e hg w_e hbox hb; have Ye := Aside0.mk hbox; have Ze := Aside0.mk hb; have Ge := Aside0.mk hg; clear hbox hb hg; have J0 := Aside0.mk (show spec_ReadSnap.Inv w w_e r g e x0 0 (!ok) 0 0 (.slice none 0 0) ⟨#[]⟩ from ⟨⟨blk_below Yg.out Ze.out, by rw [Gg.out]; exact Zr2.out.size⟩, blk_below (blk_below Yr2.out Zg.out) Ze.out, Ye.out, below_step (below_step Zr2.out Zg.out) Ze.out, Nat.le_of_eq Gr.out.symm, by rw [Ge.out]; exact Nat.le_trans Zr2.out.size Zg.out.size, by rw [Gg.out]; exact Nat.ne_of_lt (blk_lt Yr2.out), by rw [Ge.out]; exact Nat.ne_of_gt (blk_lt Yg.out), by rw [Ge.out]; exact Nat.ne_of_lt (Nat.lt_of_lt_of_le (blk_lt Yr2.out) Zg.out.size)⟩); clear Yr2 Zr Zr2 Gr Yg Zg Gg Ye Ze Ge; have c0 := blk_cell J0.out.e3 0; have c1 := blk_cell J0.out.e3 1; have c2 := blk_cell J0.out.e3 2; have c3 := blk_cell J0.out.e3 3; simp only [List.getElem?_toArray, List.getElem?_cons_zero, List.getElem?_cons_succ] at c0 c1 c2 c3; have f0 := blk_frozen J0.out.e3 0; have f1 := blk_frozen J0.out.e3 1; have f2 := blk_frozen J0.out.e3 2; have f3 := blk_frozen J0.out.e3 3))
 have K0 := Aside0.mk ((((J0.out.set0 0).set1 0).set2 (.slice none 0 0)).set3 ⟨#[]⟩)
 clear J0 c0 c1 c2 c3 f0 f1 f2 f3
 refine (spec_l05Var.calls k g x0 0 (!ok) x1 t1 a1 b1 w _ K0.out.st K0.out.bl A1.out).mono ?_
 rintro e_ w1 ⟨rfl, hs, hb, hk⟩
 have K1 := Aside0.mk (K0.out.call hs hb hk)
 clear hs hb hk K0 A1
 have c0 := blk_cell K1.out.e3 0
 simp only [List.getElem?_toArray, List.getElem?_cons_zero, List.getElem?_cons_succ] at c0
 have f0 := blk_frozen K1.out.e3 0
 go_wp2_with fail
 have K1b := Aside0.mk (K1.out.set0 x1)
 clear K1 c0 f0
 refine (spec_l05Var.calls k g t1 a1 b1 x2 t2 a2 b2 w _ K1b.out.st K1b.out.bl A2.out).mono ?_
 rintro e_ w2 ⟨rfl, hs, hb, hk⟩
 have K2 := Aside0.mk (K1b.out.call hs hb hk)
 clear hs hb hk K1b A2
 have c1 := blk_cell K2.out.e3 1
 simp only [List.getElem?_toArray, List.getElem?_cons_zero, List.getElem?_cons_succ] at c1
 have f1 := blk_frozen K2.out.e3 1
 go_wp2_with fail
 have K2b := Aside0.mk (K2.out.set1 x2)
 clear K2 c1 f1
 refine (spec_l05ReadShort.calls k g t2 a2 b2 x3 t3 a3 b3 w _ K2b.out.st K2b.out.bl A3.out).mono ?_
 rintro e_ w3 ⟨rfl, hs, hb, hk⟩
 have K3 := Aside0.mk (K2b.out.call hs hb hk)
 clear hs hb hk K2b A3
 go_wp2_with fail
 refine (spec_ReadConf.calls k x3 xs okc _ AQ.out).mono ?_
 rintro e_ w4 ⟨v, rfl, hr, hb⟩
 have K4 := Aside0.mk (K3.out.below hb)
 have V4 := Aside0.mk (spec_ReadSnap.Row.mk_ K4.out hr K3.out.bl.size)
 clear hr hb K3 AQ
 obtain ⟨A_, c_, ev⟩ := Kd.R_slice V4.out
 subst ev
 have c2 := blk_cell K4.out.e3 2
 simp only [List.getElem?_toArray, List.getElem?_cons_zero, List.getElem?_cons_succ] at c2
 have f2 := blk_frozen K4.out.e3 2
 go_wp2_with fail
 have K4b := Aside0.mk (K4.out.set2 (.slice A_ xs.length c_))
 have V4b := Aside0.mk (V4.out.sete 2 (.slice A_ xs.length c_))
 clear K4 V4 c2 f2
 refine (spec_l05ReadShort.calls k g t3 a3 b3 x4 t4 a4 b4 w _ K4b.out.st K4b.out.bl A4.out).mono ?_
 rintro e_ w5 ⟨rfl, hs, hb, hk⟩
 have K5 := Aside0.mk (K4b.out.call hs hb hk)
 have V5 := Aside0.mk (V4b.out.call hk)
 clear hs hb hk K4b A4 V4b
 have c0 := blk_cell K5.out.e3 0
 have c1 := blk_cell K5.out.e3 1
 have c2 := blk_cell K5.out.e3 2
 have c3 := blk_cell K5.out.e3 3
 simp only [List.getElem?_toArray, List.getElem?_cons_zero, List.getElem?_cons_succ] at c0 c1 c2 c3
 have f0 := blk_frozen K5.out.e3 0
 have f1 := blk_frozen K5.out.e3 1
 have f2 := blk_frozen K5.out.e3 2
 have f3 := blk_frozen K5.out.e3 3
 go_wp2_with fail
 have K5b := Aside0.mk (K5.out.set3 x4)
 have V5b := Aside0.mk (V5.out.sete 3 (.string x4))
 clear K5 V5 c0 c1 c2 c3 f0 f1 f2 f3
 refine (spec_SnapText.calls k x1 x2 A_ c_ xs x4 z okz _ (Kd.R_reads' V5b.out).2.2 (Kd.R_reads' V5b.out).2.1 AZ.out).mono ?_
 rintro e_ w6 ⟨rfl, hb⟩
 have K6 := Aside0.mk (K5b.out.below hb)
 have V6 := Aside0.mk (V5b.out.below hb)
 clear hb K5b V5b AZ
 have s2 := blk_cell K6.out.st.1 2
 simp only [List.getElem?_toArray, List.getElem?_cons_zero, List.getElem?_cons_succ] at s2
 have c0 := blk_cell K6.out.e3 0
 have c1 := blk_cell K6.out.e3 1
 have c2 := blk_cell K6.out.e3 2
 have c3 := blk_cell K6.out.e3 3
 simp only [List.getElem?_toArray, List.getElem?_cons_zero, List.getElem?_cons_succ] at c0 c1 c2 c3
 have f0 := blk_frozen K6.out.e3 0
 have f1 := blk_frozen K6.out.e3 1
 have f2 := blk_frozen K6.out.e3 2
 have f3 := blk_frozen K6.out.e3 3
 have d0 := blk_cell K6.out.r1 0
 have d1 := blk_cell K6.out.r1 1
 have d2 := blk_cell K6.out.r1 2
 have d3 := blk_cell K6.out.r1 3
 simp only [List.getElem?_toArray, List.getElem?_cons_zero, List.getElem?_cons_succ] at d0 d1 d2 d3
 have g0 := blk_frozen K6.out.r1 0
 have g1 := blk_frozen K6.out.r1 1
 have g2 := blk_frozen K6.out.r1 2
 have g3 := blk_frozen K6.out.r1 3
 cases b4 with
 | true =>
  obtain ⟨rfl, rfl, rfl, rfl, rfl⟩ := NO.out (by have h_ := H.out; simpa using h_)
  clear NO
  go_wp2
  refine bodyPost_ret (results_list (rs := [.cell 2 48, .tmp 3]) rfl (by simp) (.cell r 48 #[.int .i64 0, .int .i64 0, .slice none 0 0, .string (⟨#[]⟩ : ByteArray)] (0, 0) _ rfl (blk_put (blk_put (blk_put (blk_put K6.out.r1 0 _ rfl) 1 _ rfl) 2 _ rfl) 3 _ rfl) Tryd.underlying48 rfl (by kernel_rfl) (.tmp .nil))) rfl ?_
  exact ⟨_, rfl, Kd.R_nil _ _ _ _ _, below_set (below_set (below_set (below_set (K6.out.bl) K6.out.g1) K6.out.g1) K6.out.g1) K6.out.g1⟩
 | false =>
  cases okz with
  | false =>
   obtain ⟨rfl, rfl, rfl, rfl, rfl⟩ := NO.out (by have h_ := H.out; simpa using h_)
   clear NO
   go_wp2
   refine bodyPost_ret (results_list (rs := [.cell 2 48, .tmp 3]) rfl (by simp) (.cell r 48 #[.int .i64 0, .int .i64 0, .slice none 0 0, .string (⟨#[]⟩ : ByteArray)] (0, 0) _ rfl (blk_put (blk_put (blk_put (blk_put K6.out.r1 0 _ rfl) 1 _ rfl) 2 _ rfl) 3 _ rfl) Tryd.underlying48 rfl (by kernel_rfl) (.tmp .nil))) rfl ?_
   exact ⟨_, rfl, Kd.R_nil _ _ _ _ _, below_set (below_set (below_set (below_set (K6.out.bl) K6.out.g1) K6.out.g1) K6.out.g1) K6.out.g1⟩
  | true =>
   have H1 := H.out
   simp only [Bool.false_eq_true, if_false, if_true] at H1
   by_cases i3 : z.toList = a0.toList
   ·rw [if_pos i3] at H1
    simp only [Option.some.injEq, Prod.mk.injEq] at H1
    obtain ⟨rfl, rfl, rfl, rfl, rfl⟩ := H1
    have i3a : (z.toList == a0.toList) = true := by simpa using i3
    have i3b : (z.toList != a0.toList) = false := by simpa using i3
    clear NO H i3
    go_wp2
    refine bodyPost_ret (results_list (rs := [.cell 2 48, .tmp 3]) rfl (by simp) (.cell r 48 #[.int .i64 x1, .int .i64 x2, .slice A_ xs.length c_, .string x4] (0, 0) _ rfl (blk_put (blk_put (blk_put (blk_put K6.out.r1 0 _ rfl) 1 _ rfl) 2 _ rfl) 3 _ rfl) Tryd.underlying48 rfl (by kernel_rfl) (.tmp .nil))) rfl ?_
    exact ⟨_, rfl, Kd.R_mono (((((V6.out.setr 0 _).setr 1 _).setr 2 _).setr 3 _)) (fun _ _ => trivial), below_set (below_set (below_set (below_set (K6.out.bl) K6.out.g1) K6.out.g1) K6.out.g1) K6.out.g1⟩
   ·rw [if_neg i3] at H1
    obtain ⟨rfl, rfl, rfl, rfl, rfl⟩ := NO.out H1
    have i3a : (z.toList == a0.toList) = false := by simpa using i3
    have i3b : (z.toList != a0.toList) = true := by simpa using i3
    clear NO H H1 i3
    go_wp2
    refine bodyPost_ret (results_list (rs := [.cell 2 48, .tmp 3]) rfl (by simp) (.cell r 48 #[.int .i64 0, .int .i64 0, .slice none 0 0, .string (⟨#[]⟩ : ByteArray)] (0, 0) _ rfl (blk_put (blk_put (blk_put (blk_put K6.out.r1 0 _ rfl) 1 _ rfl) 2 _ rfl) 3 _ rfl) Tryd.underlying48 rfl (by kernel_rfl) (.tmp .nil))) rfl ?_
    exact ⟨_, rfl, Kd.R_nil _ _ _ _ _, below_set (below_set (below_set (below_set (K6.out.bl) K6.out.g1) K6.out.g1) K6.out.g1) K6.out.g1⟩

end Go.Proofs.YtogifkjkbfdocaaDoor.QFnExactNewestSnap
