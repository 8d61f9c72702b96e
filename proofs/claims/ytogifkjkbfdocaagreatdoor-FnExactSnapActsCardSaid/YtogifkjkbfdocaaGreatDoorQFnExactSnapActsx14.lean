/- Written by the kit's print.py, called by our own print2.sh with one import more; not by print.sh. -/
import Derived.Test.YtogifkjkbfdocaaGreatDoorQFnExactSnapActsx0
import Derived.Test.YtogifkjkbfdocaaGreatDoorQFnExactSnapActsx12
import Derived.Test.YtogifkjkbfdocaaGreatDoorQFnExactSnapActsx13
namespace Go.Proofs.YtogifkjkbfdocaaGreatDoor.QFnExactSnapActs
open Go.RowKit Go.Proofs.YtogifkjkbfdocaaGreatDoorW.PrintWords Go.Proofs.YtogifkjkbfdocaaGreatDoorW.PrintLast Go.Proofs.YtogifkjkbfdocaaGreatDoorW.PrintMore
attribute [local go_sem] max2_int min2_int max_two min_two max_three min_three max_four min_four   -- for this text's walks alone
open Go.Proofs.YtogifkjkbfdocaaGreatDoor.Short
set_option linter.unusedVariables false
set_option linter.unusedSimpArgs false

/-! ### impl_SnapText: function 59 -/
def impl_SnapText.j0 : Nat → ByteArray → ByteArray → Bool → Int → Int → List Int → ByteArray → Option (ByteArray × Bool)
 | 0, _, _, _, _, _, _, _ => none
 | k + 1, x4, x6, x38, x362000, x362001, x362002, x362003 => if x38 = true then (some ((⟨#[]⟩ : ByteArray), false)) else ((impl_varTexts.f k (([x362000, x362001] : List Int))).bind fun t371 => ((impl_shortTexts.f k (([x4] : List ByteArray))).bind fun t375 => (if t371.size + t375.size ≤ 9223372036854775807 then (if (t371 ++ t375).size + x6.size ≤ 9223372036854775807 then ((impl_Sealed.f k ((t371 ++ t375) ++ x6)).bind fun bt376 => (if bt376.2 = true then (if (bt376.1.size : Int) > 20000 then (some ((⟨#[]⟩ : ByteArray), false)) else (some (bt376.1, true))) else (some ((⟨#[]⟩ : ByteArray), false)))) else (none)) else (none))))
def impl_SnapText.f (k : Nat) (a0_0 : Int) (a0_1 : Int) (l0_2 : List Int) (a0_3 : ByteArray) : Option (ByteArray × Bool) := (impl_ConfText.f k l0_2).bind fun bt362 => ((impl_ShortText.f k a0_3).bind fun bt364 => (if bt362.2 = true then (if bt364.2 = true then ((impl_isIndex.f a0_0).bind fun t366 => (if t366 = true then ((impl_isTerm.f a0_1).bind fun t367 => (impl_SnapText.j0 k bt362.1 bt364.1 (!t367) a0_0 a0_1 l0_2 a0_3)) else (impl_SnapText.j0 k bt362.1 bt364.1 true a0_0 a0_1 l0_2 a0_3))) else (impl_SnapText.j0 k bt362.1 bt364.1 true a0_0 a0_1 l0_2 a0_3)) else (impl_SnapText.j0 k bt362.1 bt364.1 true a0_0 a0_1 l0_2 a0_3)))
theorem impl_SnapText.mono_l : ∀ k, (∀ y0 y1 y2 y3 y4 y5 y6, LeO (impl_SnapText.j0 k y0 y1 y2 y3 y4 y5 y6) (impl_SnapText.j0 (k + 1) y0 y1 y2 y3 y4 y5 y6))
 | 0 => fun _ _ _ _ _ _ _ r h => by simp [impl_SnapText.j0] at h
 | k + 1 => by
  have ih0 := impl_SnapText.mono_l k
  ·intro y0 y1 y2 y3 y4 y5 y6
   unfold impl_SnapText.j0
   repeat' first
   | (with_reducible exact ih0 _ _ _ _ _ _ _)
   | (with_reducible exact impl_ConfText.mono _ _)
   | (with_reducible exact impl_Sealed.mono _ _)
   | (with_reducible exact impl_ShortText.mono _ _)
   | (with_reducible exact impl_shortTexts.mono _ _)
   | (with_reducible exact impl_varTexts.mono _ _)
   | (with_reducible exact LeO.refl _)
   | (with_reducible exact LeO.none _)
   | (with_reducible refine LeO.ite ?_ ?_)
   | (with_reducible refine LeO.bind ?_ (fun _ => ?_))
   | exact ih0 _ _ _ _ _ _ _
   | exact impl_ConfText.mono _ _
   | exact impl_Sealed.mono _ _
   | exact impl_ShortText.mono _ _
   | exact impl_shortTexts.mono _ _
   | exact impl_varTexts.mono _ _
   | exact LeO.none _
   | refine LeO.ite ?_ ?_
   | refine LeO.bind ?_ (fun _ => ?_)
theorem impl_SnapText.mono : ∀ a0 a1 a2 a3 k, LeO (impl_SnapText.f k a0 a1 a2 a3) (impl_SnapText.f (k + 1) a0 a1 a2 a3) := by
 intro a0 a1 a2 a3 k
 have ih0 := impl_SnapText.mono_l k
 unfold impl_SnapText.f
 repeat' first
   | (with_reducible exact ih0 _ _ _ _ _ _ _)
   | (with_reducible exact impl_ConfText.mono _ _)
   | (with_reducible exact impl_Sealed.mono _ _)
   | (with_reducible exact impl_ShortText.mono _ _)
   | (with_reducible exact impl_shortTexts.mono _ _)
   | (with_reducible exact impl_varTexts.mono _ _)
   | (with_reducible exact LeO.refl _)
   | (with_reducible exact LeO.none _)
   | (with_reducible refine LeO.ite ?_ ?_)
   | (with_reducible refine LeO.bind ?_ (fun _ => ?_))
   | exact ih0 _ _ _ _ _ _ _
   | exact impl_ConfText.mono _ _
   | exact impl_Sealed.mono _ _
   | exact impl_ShortText.mono _ _
   | exact impl_shortTexts.mono _ _
   | exact impl_varTexts.mono _ _
   | exact LeO.none _
   | refine LeO.ite ?_ ?_
   | refine LeO.bind ?_ (fun _ => ?_)
set_option maxHeartbeats 8000000 in
set_option maxRecDepth 100000 in
theorem impl_SnapText.calls (k : Nat) (a0_0 : Int) (a0_1 : Int) (A0_2 : Option Addr) (c0_2 : Nat) (l0_2 : List Int) (a0_3 : ByteArray) (r1 : ByteArray) (r2 : Bool) (w : World) (hr0_2 : Kd.C (Kd.int .i64) w A0_2 l0_2.length l0_2) (hc0_2 : l0_2.length ≤ c0_2) (h : impl_SnapText.f k a0_0 a0_1 l0_2 a0_3 = some (r1, r2)) :
  Calls Tryz.prog 59 #[.agg #[.int .i64 a0_0, .int .i64 a0_1, .slice A0_2 l0_2.length c0_2, .string a0_3]] w fun e w' => e = .returned (.tuple #[.string r1, .bool r2]) ∧ Below w.heap.size w w' := by
 have hu52 := Tryz.underlying52
 have HR0_2 := Aside0.mk hr0_2
 have HC0_2 := Aside0.mk hc0_2
 clear hr0_2 hc0_2
 have HB := Aside0.mk (Below.refl w.heap.size w)
 have H : ((impl_ConfText.f k l0_2).bind fun bt362 => ((impl_ShortText.f k a0_3).bind fun bt364 => (if bt362.2 = true then (if bt364.2 = true then ((impl_isIndex.f a0_0).bind fun t366 => (if t366 = true then ((impl_isTerm.f a0_1).bind fun t367 => (impl_SnapText.j0 k bt362.1 bt364.1 (!t367) a0_0 a0_1 l0_2 a0_3)) else (impl_SnapText.j0 k bt362.1 bt364.1 true a0_0 a0_1 l0_2 a0_3))) else (impl_SnapText.j0 k bt362.1 bt364.1 true a0_0 a0_1 l0_2 a0_3)) else (impl_SnapText.j0 k bt362.1 bt364.1 true a0_0 a0_1 l0_2 a0_3)))) = some (r1, r2) := h
 clear h
 replace H := Option.bind_eq_some_iff.mp H
 obtain ⟨⟨t362, t363⟩, A20, H⟩ := H
 try dsimp only at H
 have A2 := Aside0.mk A20
 clear A20
 replace H := Option.bind_eq_some_iff.mp H
 obtain ⟨⟨t364, t365⟩, A30, H⟩ := H
 try dsimp only at H
 have A3 := Aside0.mk A30
 clear A30
 have HC4 := Aside0.mk H
 clear H
 go_enter Tryz.func59, Tryz.ntmps59
 go_upto_region 3 with (first | ((with_reducible refine gate_dst (N := 1) rfl ?_); (try (refine gate_guard (by rfl) ?_; dsimp only)); refine box_event ?hg (N := 1) ?hd (cs := #[.int .i64 a0_0, .int .i64 a0_1, .slice A0_2 l0_2.length c0_2, .string a0_3]) (t := 52) ?hr ?_; (case hd => rfl); (case hg => rfl); (case hr => first | (go_simp; done) | (go_simp; rfl)); intro gb361 hg w5 hbox hb; have BK361 := am (hbox); have GW361 := zge hg (zb0 HB.out); have GE361 := zge hg (zb0 HB.out); replace HB := am (below_step (zb0 HB.out) hb); clear hb hbox hg; obtain ⟨hcz6_0, hcz6_1, hcz6_2, hcz6_3, hfz6_0, hfz6_1, hfz6_2, hfz6_3⟩ := zc4 BK361.out) | ((with_reducible refine gate_callee (f := 98) rfl ?_); refine goesL_ (some 12) rfl rfl Tryz.func98 (by kernel_rfl) rfl #[.slice A0_2 l0_2.length c0_2] rfl zr ?_; (with_reducible refine (impl_ConfText.calls k _ _ l0_2 t362 t363 _ ?side1 ?side2 A2.out).mono ?_); (case side1 => repeat (first | exact (Kd.C_below HR0_2.out HB.out) | (with_reducible refine Kd.C_alloc ?_ _) | (with_reducible refine Kd.C_drewN ?_ _) | (with_reducible refine Kd.C_drew ?_))); (case side2 => exact HC0_2.out); rintro e w7 ⟨rfl, hb⟩; refine ⟨_, rfl, ?_⟩; replace BK361 := am (bb hb (kx BK361.out)); replace HB := am (below_step (zb1 HB.out GE361.out) hb); (try clear hb); (try clear hb2); (try clear hk); (try clear hi); obtain ⟨hcz8_0, hcz8_1, hcz8_2, hcz8_3, hfz8_0, hfz8_1, hfz8_2, hfz8_3⟩ := zc4 BK361.out) | ((with_reducible refine gate_callee (f := 99) rfl ?_); refine goesL_ (some 18) rfl rfl Tryz.func99 (by kernel_rfl) rfl #[.string a0_3] rfl zr ?_; (with_reducible refine (impl_ShortText.calls k a0_3 t364 t365 _ A3.out).mono ?_); rintro e w9 ⟨rfl, hb⟩; refine ⟨_, rfl, ?_⟩; replace BK361 := am (bb hb (kx BK361.out)); replace HB := am (below_step (zb1 HB.out GE361.out) hb); (try clear hb); (try clear hb2); (try clear hk); (try clear hi)))
 (try simp only [Act.put, List.setIfInBounds_toArray, List.set_cons_zero, List.set_cons_succ])
 go_cut [38] (fun v38 wc => ∃ (kq : Nat) (x38_3 : Bool), v38 = .bool x38_3 ∧ Aside0 (impl_SnapText.j0 kq t362 t364 x38_3 a0_0 a0_1 l0_2 a0_3 = some (r1, r2)) ∧ Aside0 (kq ≤ k) ∧ Aside0 (wc.heap[gb361]? = some (.cells #[.int .i64 a0_0, .int .i64 a0_1, (.slice A0_2 l0_2.length c0_2), .string a0_3] 52 (0, 0))) ∧ Aside0 (Below w.heap.size w wc))
 case first =>
  have H := HC4.out
  clear HC4
  by_cases c10 : t363 = true
  ·subst c10
   have H1 : (if t365 = true then ((impl_isIndex.f a0_0).bind fun t366 => (if t366 = true then ((impl_isTerm.f a0_1).bind fun t367 => (impl_SnapText.j0 k t362 t364 (!t367) a0_0 a0_1 l0_2 a0_3)) else (impl_SnapText.j0 k t362 t364 true a0_0 a0_1 l0_2 a0_3))) else (impl_SnapText.j0 k t362 t364 true a0_0 a0_1 l0_2 a0_3)) = some (r1, r2) := by rw [if_pos rfl] at H; exact H
   clear H
   have H := H1
   clear H1
   by_cases c11 : t365 = true
   ·subst c11
    have H1 : ((impl_isIndex.f a0_0).bind fun t366 => (if t366 = true then ((impl_isTerm.f a0_1).bind fun t367 => (impl_SnapText.j0 k t362 t364 (!t367) a0_0 a0_1 l0_2 a0_3)) else (impl_SnapText.j0 k t362 t364 true a0_0 a0_1 l0_2 a0_3))) = some (r1, r2) := by rw [if_pos rfl] at H; exact H
    clear H
    have H := H1
    clear H1
    replace H := Option.bind_eq_some_iff.mp H
    obtain ⟨t366, A120, H⟩ := H
    try dsimp only at H
    have A12 := Aside0.mk A120
    clear A120
    by_cases c13 : t366 = true
    ·subst c13
     have H1 : ((impl_isTerm.f a0_1).bind fun t367 => (impl_SnapText.j0 k t362 t364 (!t367) a0_0 a0_1 l0_2 a0_3)) = some (r1, r2) := by rw [if_pos rfl] at H; exact H
     clear H
     have H := H1
     clear H1
     replace H := Option.bind_eq_some_iff.mp H
     obtain ⟨t367, A140, H⟩ := H
     try dsimp only at H
     have A14 := Aside0.mk A140
     clear A140
     have H' := Aside0.mk H
     clear H
     obtain ⟨hcz15_0, hcz15_1, hcz15_2, hcz15_3, hfz15_0, hfz15_1, hfz15_2, hfz15_3⟩ := zc4 BK361.out
     go_wp2_with (first | (go_at_call 68; (with_reducible refine (impl_isIndex.calls a0_0 true _ A12.out).mono ?_); rintro e w' ⟨rfl, ⟨nd, rfl⟩⟩) | (go_at_call 100; (with_reducible refine (impl_isTerm.calls a0_1 t367 _ A14.out).mono ?_); rintro e w' ⟨rfl, ⟨nd, rfl⟩⟩))
     go_meet
     case rel => exact ⟨_, (!t367), (by first | rfl | (simp; done) | (simp [*]; done)), H', ⟨by first | omega | exact Nat.le_refl _⟩, ⟨kx BK361.out⟩, ⟨zb1 HB.out GE361.out⟩⟩
    ·replace c13 := Bool.eq_false_iff.mpr c13
     subst c13
     have H1 : (impl_SnapText.j0 k t362 t364 true a0_0 a0_1 l0_2 a0_3) = some (r1, r2) := by rw [if_neg (show ¬ (false = true) by decide)] at H; exact H
     clear H
     have H := H1
     clear H1
     have H' := Aside0.mk H
     clear H
     obtain ⟨hcz16_0, hcz16_1, hcz16_2, hcz16_3, hfz16_0, hfz16_1, hfz16_2, hfz16_3⟩ := zc4 BK361.out
     go_wp2_with (first | (go_at_call 68; (with_reducible refine (impl_isIndex.calls a0_0 false _ A12.out).mono ?_); rintro e w' ⟨rfl, ⟨nd, rfl⟩⟩))
     go_meet
     case rel => exact ⟨_, (true), (by first | rfl | (simp; done) | (simp [*]; done)), H', ⟨by first | omega | exact Nat.le_refl _⟩, ⟨kx BK361.out⟩, ⟨zb1 HB.out GE361.out⟩⟩
   ·replace c11 := Bool.eq_false_iff.mpr c11
    subst c11
    have H1 : (impl_SnapText.j0 k t362 t364 true a0_0 a0_1 l0_2 a0_3) = some (r1, r2) := by rw [if_neg (show ¬ (false = true) by decide)] at H; exact H
    clear H
    have H := H1
    clear H1
    have H' := Aside0.mk H
    clear H
    go_wp2
    go_meet
    case rel => exact ⟨_, (true), (by first | rfl | (simp; done) | (simp [*]; done)), H', ⟨by first | omega | exact Nat.le_refl _⟩, ⟨kx BK361.out⟩, ⟨zb1 HB.out GE361.out⟩⟩
  ·replace c10 := Bool.eq_false_iff.mpr c10
   subst c10
   have H1 : (impl_SnapText.j0 k t362 t364 true a0_0 a0_1 l0_2 a0_3) = some (r1, r2) := by rw [if_neg (show ¬ (false = true) by decide)] at H; exact H
   clear H
   have H := H1
   clear H1
   have H' := Aside0.mk H
   clear H
   go_wp2
   go_meet
   case rel => exact ⟨_, (true), (by first | rfl | (simp; done) | (simp [*]; done)), H', ⟨by first | omega | exact Nat.le_refl _⟩, ⟨kx BK361.out⟩, ⟨zb1 HB.out GE361.out⟩⟩
 case rest =>
  clear HC4
  try clear c1
  try clear p2
  try clear c5
  try clear c9
  try clear c10
  try clear c11
  try clear c13
  try clear hcz15_0
  try clear hcz15_1
  try clear hcz15_2
  try clear hcz15_3
  try clear hcz16_0
  try clear hcz16_1
  try clear hcz16_2
  try clear hcz16_3
  try clear hcz6_0
  try clear hcz6_1
  try clear hcz6_2
  try clear hcz6_3
  try clear hcz8_0
  try clear hcz8_1
  try clear hcz8_2
  try clear hcz8_3
  try clear hfz15_0
  try clear hfz15_1
  try clear hfz15_2
  try clear hfz15_3
  try clear hfz16_0
  try clear hfz16_1
  try clear hfz16_2
  try clear hfz16_3
  try clear hfz6_0
  try clear hfz6_1
  try clear hfz6_2
  try clear hfz6_3
  try clear hfz8_0
  try clear hfz8_1
  try clear hfz8_2
  try clear hfz8_3
  obtain ⟨kq, x38_3, rfl, HA, HJ3, BK361, HB⟩ := hcut
  cases kq with
  | zero => exact absurd HA.out (by simp [impl_SnapText.j0])
  | succ kj3 =>
   have H := HA.out
   clear HA
   simp only [impl_SnapText.j0] at H
   by_cases c17 : x38_3 = true
   ·subst c17
    have H1 : (some ((⟨#[]⟩ : ByteArray), false)) = some (r1, r2) := by rw [if_pos rfl] at H; exact H
    clear H
    have H := H1
    clear H1
    simp only [Option.some.injEq, Prod.mk.injEq] at H
    obtain ⟨rfl, rfl⟩ := H
    go_wp2
    go_ret2
    exact ⟨by first | rfl | (simp [errW_none, errW_some] <;> rfl) | (simp [*, errW_none, errW_some] <;> rfl), zb1 HB.out GE361.out⟩
   ·replace c17 := Bool.eq_false_iff.mpr c17
    subst c17
    have H1 : ((impl_varTexts.f kj3 (([a0_0, a0_1] : List Int))).bind fun t371 => ((impl_shortTexts.f kj3 (([t362] : List ByteArray))).bind fun t375 => (if t371.size + t375.size ≤ 9223372036854775807 then (if (t371 ++ t375).size + t364.size ≤ 9223372036854775807 then ((impl_Sealed.f kj3 ((t371 ++ t375) ++ t364)).bind fun bt376 => (if bt376.2 = true then (if (bt376.1.size : Int) > 20000 then (some ((⟨#[]⟩ : ByteArray), false)) else (some (bt376.1, true))) else (some ((⟨#[]⟩ : ByteArray), false)))) else (none)) else (none)))) = some (r1, r2) := by rw [if_neg (show ¬ (false = true) by decide)] at H; exact H
    clear H
    have H := H1
    clear H1
    obtain ⟨y368, hy368⟩ : ∃ y_ : List Int, y_ = (([a0_0, a0_1] : List Int)) := ⟨_, rfl⟩
    replace H : ((impl_varTexts.f kj3 y368).bind fun t371 => ((impl_shortTexts.f kj3 (([t362] : List ByteArray))).bind fun t375 => (if t371.size + t375.size ≤ 9223372036854775807 then (if (t371 ++ t375).size + t364.size ≤ 9223372036854775807 then ((impl_Sealed.f kj3 ((t371 ++ t375) ++ t364)).bind fun bt376 => (if bt376.2 = true then (if (bt376.1.size : Int) > 20000 then (some ((⟨#[]⟩ : ByteArray), false)) else (some (bt376.1, true))) else (some ((⟨#[]⟩ : ByteArray), false)))) else (none)) else (none)))) = some (r1, r2) := by first | (rw [hy368]; with_reducible exact H) | (have H2_ := (Option.bind_some _ _).symm.trans H; rw [hy368]; with_reducible exact H2_) | (have H2_ := (Option.bind_some _ _).symm.trans H; with_reducible exact H2_) | with_reducible exact H | (rw [hy368]; exact H) | exact H
    have Ny368 := Aside0.mk hy368
    clear hy368
    replace H := Option.bind_eq_some_iff.mp H
    obtain ⟨t371, A180, H⟩ := H
    try dsimp only at H
    have A18 := Aside0.mk A180
    clear A180
    obtain ⟨y372, hy372⟩ : ∃ y_ : List ByteArray, y_ = (([t362] : List ByteArray)) := ⟨_, rfl⟩
    replace H : ((impl_shortTexts.f kj3 y372).bind fun t375 => (if t371.size + t375.size ≤ 9223372036854775807 then (if (t371 ++ t375).size + t364.size ≤ 9223372036854775807 then ((impl_Sealed.f kj3 ((t371 ++ t375) ++ t364)).bind fun bt376 => (if bt376.2 = true then (if (bt376.1.size : Int) > 20000 then (some ((⟨#[]⟩ : ByteArray), false)) else (some (bt376.1, true))) else (some ((⟨#[]⟩ : ByteArray), false)))) else (none)) else (none))) = some (r1, r2) := by first | (rw [hy372]; with_reducible exact H) | (have H2_ := (Option.bind_some _ _).symm.trans H; rw [hy372]; with_reducible exact H2_) | (have H2_ := (Option.bind_some _ _).symm.trans H; with_reducible exact H2_) | with_reducible exact H | (rw [hy372]; exact H) | exact H
    have Ny372 := Aside0.mk hy372
    clear hy372
    replace H := Option.bind_eq_some_iff.mp H
    obtain ⟨t375, A190, H⟩ := H
    try dsimp only at H
    have A19 := Aside0.mk A190
    clear A190
    by_cases c20 : t371.size + t375.size ≤ 9223372036854775807
    ·rw [if_pos c20] at H
     have c20b0 := eq_true c20
     have c20b1 : decide (t371.size + t375.size ≤ 9223372036854775807) = true := decide_eq_true c20
     try have c20b2 : (9223372036854775807 < t371.size + t375.size) = False := eq_false (Nat.not_lt.2 c20)
     by_cases c21 : (t371 ++ t375).size + t364.size ≤ 9223372036854775807
     ·rw [if_pos c21] at H
      have c21b0 := eq_true c21
      have c21b1 : decide ((t371 ++ t375).size + t364.size ≤ 9223372036854775807) = true := decide_eq_true c21
      try have c21b3 : (9223372036854775807 < t371.size + t375.size + t364.size) = False := eq_false (by have h_ := c21; rw [Nat.not_lt]; simp only [ByteArray.size_append] at h_; first | exact h_ | (simp at h_; omega) | omega)
      try have c21b2 : (9223372036854775807 < (t371 ++ t375).size + t364.size) = False := eq_false (Nat.not_lt.2 c21)
      replace H := Option.bind_eq_some_iff.mp H
      obtain ⟨⟨t376, t377⟩, A220, H⟩ := H
      try dsimp only at H
      have A22 := Aside0.mk A220
      clear A220
      by_cases c23 : t377 = true
      ·subst c23
       have H1 : (if (t376.size : Int) > 20000 then (some ((⟨#[]⟩ : ByteArray), false)) else (some (t376, true))) = some (r1, r2) := by rw [if_pos rfl] at H; exact H
       clear H
       have H := H1
       clear H1
       by_cases c24 : (t376.size : Int) > 20000
       ·rw [if_pos c24] at H
        have c24b0 : decide (20000 < (t376.size : Int)) = true := decide_eq_true c24
        have c24b1 : decide (20000 < t376.size) = true := decide_eq_true (by omega)
        clear c24
        simp only [Option.some.injEq, Prod.mk.injEq] at H
        obtain ⟨rfl, rfl⟩ := H
        obtain ⟨hcz25_0, hcz25_1, hcz25_2, hcz25_3, hfz25_0, hfz25_1, hfz25_2, hfz25_3⟩ := zc4 BK361.out
        go_wp2_with (first | ((with_reducible refine gate_dst (N := 44) rfl ?_); (try (refine gate_guard (by rfl) ?_; dsimp only)); refine Kd.R_lit (Kd.int .i64) _ 3 ?hg (N := 44) ?hd (xs := ([a0_0, a0_1] : List Int)) (inner := [.int .i64 a0_0, .int .i64 a0_1]) (ok := fun _ => True) (okp := fun _ => True) ?hr ?hp (fun _ hk => hk) trivial (Below.refl _ _) (Nat.le_refl _) (by simp) ?_; (case hd => rfl); (case hg => rfl); (case hr => first | (go_simp; done) | (go_simp; rfl)); (case hp => exact (Reps.one (show Kd.M (Kd.int .i64) _ _ _ a0_0 [.int .i64 a0_0] from rfl) (Reps.one (show Kd.M (Kd.int .i64) _ _ _ a0_1 [.int .i64 a0_1] from rfl) (Reps.none _ _)))); intro v369 w26 ho27 hb hg_ hnew_; clear hg_ hnew_; (first | rw [← Ny368.out] at ho27 | (simp only [Int.reduceToNat] at ho27; rw [← Ny368.out] at ho27)); have HO370 := am (Kd.R_lower ho27 (below_size (zb1 HB.out GE361.out))); replace BK361 := am (bb hb (kx BK361.out)); replace HB := am (below_step (zb1 HB.out GE361.out) hb); clear hb ho27; obtain ⟨Ao28, co28, eo28⟩ := Kd.R_slice HO370.out; subst eo28) | ((with_reducible refine gate_callee (f := 102) rfl ?_); refine goesL_ (some 45) rfl rfl Tryz.func102 (by kernel_rfl) rfl #[.slice Ao28 y368.length co28] rfl zr ?_; (with_reducible refine (impl_varTexts.calls kj3 _ _ y368 t371 _ ?side1 ?side2 A18.out).mono ?_); (case side1 => repeat (first | exact (Kd.R_reads' HO370.out).2.2 | (with_reducible refine Kd.C_alloc ?_ _) | (with_reducible refine Kd.C_drewN ?_ _) | (with_reducible refine Kd.C_drew ?_))); (case side2 => exact (Kd.R_reads' HO370.out).2.1); rintro e w29 ⟨rfl, hb⟩; refine ⟨_, rfl, ?_⟩; replace HO370 := am (Kd.R_below (rx HO370.out) hb); replace BK361 := am (bb hb (kx BK361.out)); replace HB := am (below_step (zb1 HB.out GE361.out) hb); (try clear hb); (try clear hb2); (try clear hk); (try clear hi)) | ((with_reducible refine gate_dst (N := 47) rfl ?_); (try (refine gate_guard (by rfl) ?_; dsimp only)); refine Kd.R_lit Kd.string _ 9 ?hg (N := 47) ?hd (xs := ([t362] : List ByteArray)) (inner := [.string t362]) (ok := fun _ => True) (okp := fun _ => True) ?hr ?hp (fun _ hk => hk) trivial (Below.refl _ _) (Nat.le_refl _) (by simp) ?_; (case hd => rfl); (case hg => rfl); (case hr => first | (go_simp; done) | (go_simp; rfl)); (case hp => exact (Reps.one (show Kd.M Kd.string _ _ _ t362 [.string t362] from rfl) (Reps.none _ _))); intro v373 w30 ho31 hb hg_ hnew_; clear hg_ hnew_; (first | rw [← Ny372.out] at ho31 | (simp only [Int.reduceToNat] at ho31; rw [← Ny372.out] at ho31)); have HO374 := am (Kd.R_lower ho31 (below_size (zb1 HB.out GE361.out))); replace HO370 := am (Kd.R_below (rx HO370.out) hb); replace BK361 := am (bb hb (kx BK361.out)); replace HB := am (below_step (zb1 HB.out GE361.out) hb); clear hb ho31; obtain ⟨Ao32, co32, eo32⟩ := Kd.R_slice HO374.out; subst eo32) | ((with_reducible refine gate_callee (f := 103) rfl ?_); refine goesL_ (some 48) rfl rfl Tryz.func103 (by kernel_rfl) rfl #[.slice Ao32 y372.length co32] rfl zr ?_; (with_reducible refine (impl_shortTexts.calls kj3 _ _ y372 t375 _ ?side1 ?side2 A19.out).mono ?_); (case side1 => repeat (first | exact (Kd.R_reads' HO374.out).2.2 | (with_reducible refine Kd.C_alloc ?_ _) | (with_reducible refine Kd.C_drewN ?_ _) | (with_reducible refine Kd.C_drew ?_))); (case side2 => exact (Kd.R_reads' HO374.out).2.1); rintro e w33 ⟨rfl, hb⟩; refine ⟨_, rfl, ?_⟩; replace HO370 := am (Kd.R_below (rx HO370.out) hb); replace HO374 := am (Kd.R_below (rx HO374.out) hb); replace BK361 := am (bb hb (kx BK361.out)); replace HB := am (below_step (zb1 HB.out GE361.out) hb); (try clear hb); (try clear hb2); (try clear hk); (try clear hi)) | ((with_reducible refine gate_callee (f := 101) rfl ?_); refine goesL_ (some 52) rfl rfl Tryz.func101 (by kernel_rfl) rfl #[.string ((t371 ++ t375) ++ t364)] rfl zr ?_; (with_reducible refine (impl_Sealed.calls kj3 ((t371 ++ t375) ++ t364) t376 true _ A22.out).mono ?_); rintro e w34 ⟨rfl, hb⟩; refine ⟨_, rfl, ?_⟩; replace HO370 := am (Kd.R_below (rx HO370.out) hb); replace HO374 := am (Kd.R_below (rx HO374.out) hb); replace BK361 := am (bb hb (kx BK361.out)); replace HB := am (below_step (zb1 HB.out GE361.out) hb); (try clear hb); (try clear hb2); (try clear hk); (try clear hi)))
        go_ret2
        exact ⟨by first | rfl | (simp [errW_none, errW_some] <;> rfl) | (simp [*, errW_none, errW_some] <;> rfl), zb1 HB.out GE361.out⟩
       ·rw [if_neg c24] at H
        have c24b0 : decide (20000 < (t376.size : Int)) = false := decide_eq_false c24
        have c24b1 : decide (20000 < t376.size) = false := decide_eq_false (by omega)
        clear c24
        simp only [Option.some.injEq, Prod.mk.injEq] at H
        obtain ⟨rfl, rfl⟩ := H
        obtain ⟨hcz35_0, hcz35_1, hcz35_2, hcz35_3, hfz35_0, hfz35_1, hfz35_2, hfz35_3⟩ := zc4 BK361.out
        go_wp2_with (first | ((with_reducible refine gate_dst (N := 44) rfl ?_); (try (refine gate_guard (by rfl) ?_; dsimp only)); refine Kd.R_lit (Kd.int .i64) _ 3 ?hg (N := 44) ?hd (xs := ([a0_0, a0_1] : List Int)) (inner := [.int .i64 a0_0, .int .i64 a0_1]) (ok := fun _ => True) (okp := fun _ => True) ?hr ?hp (fun _ hk => hk) trivial (Below.refl _ _) (Nat.le_refl _) (by simp) ?_; (case hd => rfl); (case hg => rfl); (case hr => first | (go_simp; done) | (go_simp; rfl)); (case hp => exact (Reps.one (show Kd.M (Kd.int .i64) _ _ _ a0_0 [.int .i64 a0_0] from rfl) (Reps.one (show Kd.M (Kd.int .i64) _ _ _ a0_1 [.int .i64 a0_1] from rfl) (Reps.none _ _)))); intro v369 w36 ho37 hb hg_ hnew_; clear hg_ hnew_; (first | rw [← Ny368.out] at ho37 | (simp only [Int.reduceToNat] at ho37; rw [← Ny368.out] at ho37)); have HO370 := am (Kd.R_lower ho37 (below_size (zb1 HB.out GE361.out))); replace BK361 := am (bb hb (kx BK361.out)); replace HB := am (below_step (zb1 HB.out GE361.out) hb); clear hb ho37; obtain ⟨Ao38, co38, eo38⟩ := Kd.R_slice HO370.out; subst eo38) | ((with_reducible refine gate_callee (f := 102) rfl ?_); refine goesL_ (some 45) rfl rfl Tryz.func102 (by kernel_rfl) rfl #[.slice Ao38 y368.length co38] rfl zr ?_; (with_reducible refine (impl_varTexts.calls kj3 _ _ y368 t371 _ ?side1 ?side2 A18.out).mono ?_); (case side1 => repeat (first | exact (Kd.R_reads' HO370.out).2.2 | (with_reducible refine Kd.C_alloc ?_ _) | (with_reducible refine Kd.C_drewN ?_ _) | (with_reducible refine Kd.C_drew ?_))); (case side2 => exact (Kd.R_reads' HO370.out).2.1); rintro e w39 ⟨rfl, hb⟩; refine ⟨_, rfl, ?_⟩; replace HO370 := am (Kd.R_below (rx HO370.out) hb); replace BK361 := am (bb hb (kx BK361.out)); replace HB := am (below_step (zb1 HB.out GE361.out) hb); (try clear hb); (try clear hb2); (try clear hk); (try clear hi)) | ((with_reducible refine gate_dst (N := 47) rfl ?_); (try (refine gate_guard (by rfl) ?_; dsimp only)); refine Kd.R_lit Kd.string _ 9 ?hg (N := 47) ?hd (xs := ([t362] : List ByteArray)) (inner := [.string t362]) (ok := fun _ => True) (okp := fun _ => True) ?hr ?hp (fun _ hk => hk) trivial (Below.refl _ _) (Nat.le_refl _) (by simp) ?_; (case hd => rfl); (case hg => rfl); (case hr => first | (go_simp; done) | (go_simp; rfl)); (case hp => exact (Reps.one (show Kd.M Kd.string _ _ _ t362 [.string t362] from rfl) (Reps.none _ _))); intro v373 w40 ho41 hb hg_ hnew_; clear hg_ hnew_; (first | rw [← Ny372.out] at ho41 | (simp only [Int.reduceToNat] at ho41; rw [← Ny372.out] at ho41)); have HO374 := am (Kd.R_lower ho41 (below_size (zb1 HB.out GE361.out))); replace HO370 := am (Kd.R_below (rx HO370.out) hb); replace BK361 := am (bb hb (kx BK361.out)); replace HB := am (below_step (zb1 HB.out GE361.out) hb); clear hb ho41; obtain ⟨Ao42, co42, eo42⟩ := Kd.R_slice HO374.out; subst eo42) | ((with_reducible refine gate_callee (f := 103) rfl ?_); refine goesL_ (some 48) rfl rfl Tryz.func103 (by kernel_rfl) rfl #[.slice Ao42 y372.length co42] rfl zr ?_; (with_reducible refine (impl_shortTexts.calls kj3 _ _ y372 t375 _ ?side1 ?side2 A19.out).mono ?_); (case side1 => repeat (first | exact (Kd.R_reads' HO374.out).2.2 | (with_reducible refine Kd.C_alloc ?_ _) | (with_reducible refine Kd.C_drewN ?_ _) | (with_reducible refine Kd.C_drew ?_))); (case side2 => exact (Kd.R_reads' HO374.out).2.1); rintro e w43 ⟨rfl, hb⟩; refine ⟨_, rfl, ?_⟩; replace HO370 := am (Kd.R_below (rx HO370.out) hb); replace HO374 := am (Kd.R_below (rx HO374.out) hb); replace BK361 := am (bb hb (kx BK361.out)); replace HB := am (below_step (zb1 HB.out GE361.out) hb); (try clear hb); (try clear hb2); (try clear hk); (try clear hi)) | ((with_reducible refine gate_callee (f := 101) rfl ?_); refine goesL_ (some 52) rfl rfl Tryz.func101 (by kernel_rfl) rfl #[.string ((t371 ++ t375) ++ t364)] rfl zr ?_; (with_reducible refine (impl_Sealed.calls kj3 ((t371 ++ t375) ++ t364) t376 true _ A22.out).mono ?_); rintro e w44 ⟨rfl, hb⟩; refine ⟨_, rfl, ?_⟩; replace HO370 := am (Kd.R_below (rx HO370.out) hb); replace HO374 := am (Kd.R_below (rx HO374.out) hb); replace BK361 := am (bb hb (kx BK361.out)); replace HB := am (below_step (zb1 HB.out GE361.out) hb); (try clear hb); (try clear hb2); (try clear hk); (try clear hi)))
        go_ret2
        exact ⟨by first | rfl | (simp [errW_none, errW_some] <;> rfl) | (simp [*, errW_none, errW_some] <;> rfl), zb1 HB.out GE361.out⟩
      ·replace c23 := Bool.eq_false_iff.mpr c23
       subst c23
       have H1 : (some ((⟨#[]⟩ : ByteArray), false)) = some (r1, r2) := by rw [if_neg (show ¬ (false = true) by decide)] at H; exact H
       clear H
       have H := H1
       clear H1
       simp only [Option.some.injEq, Prod.mk.injEq] at H
       obtain ⟨rfl, rfl⟩ := H
       obtain ⟨hcz45_0, hcz45_1, hcz45_2, hcz45_3, hfz45_0, hfz45_1, hfz45_2, hfz45_3⟩ := zc4 BK361.out
       go_wp2_with (first | ((with_reducible refine gate_dst (N := 44) rfl ?_); (try (refine gate_guard (by rfl) ?_; dsimp only)); refine Kd.R_lit (Kd.int .i64) _ 3 ?hg (N := 44) ?hd (xs := ([a0_0, a0_1] : List Int)) (inner := [.int .i64 a0_0, .int .i64 a0_1]) (ok := fun _ => True) (okp := fun _ => True) ?hr ?hp (fun _ hk => hk) trivial (Below.refl _ _) (Nat.le_refl _) (by simp) ?_; (case hd => rfl); (case hg => rfl); (case hr => first | (go_simp; done) | (go_simp; rfl)); (case hp => exact (Reps.one (show Kd.M (Kd.int .i64) _ _ _ a0_0 [.int .i64 a0_0] from rfl) (Reps.one (show Kd.M (Kd.int .i64) _ _ _ a0_1 [.int .i64 a0_1] from rfl) (Reps.none _ _)))); intro v369 w46 ho47 hb hg_ hnew_; clear hg_ hnew_; (first | rw [← Ny368.out] at ho47 | (simp only [Int.reduceToNat] at ho47; rw [← Ny368.out] at ho47)); have HO370 := am (Kd.R_lower ho47 (below_size (zb1 HB.out GE361.out))); replace BK361 := am (bb hb (kx BK361.out)); replace HB := am (below_step (zb1 HB.out GE361.out) hb); clear hb ho47; obtain ⟨Ao48, co48, eo48⟩ := Kd.R_slice HO370.out; subst eo48) | ((with_reducible refine gate_callee (f := 102) rfl ?_); refine goesL_ (some 45) rfl rfl Tryz.func102 (by kernel_rfl) rfl #[.slice Ao48 y368.length co48] rfl zr ?_; (with_reducible refine (impl_varTexts.calls kj3 _ _ y368 t371 _ ?side1 ?side2 A18.out).mono ?_); (case side1 => repeat (first | exact (Kd.R_reads' HO370.out).2.2 | (with_reducible refine Kd.C_alloc ?_ _) | (with_reducible refine Kd.C_drewN ?_ _) | (with_reducible refine Kd.C_drew ?_))); (case side2 => exact (Kd.R_reads' HO370.out).2.1); rintro e w49 ⟨rfl, hb⟩; refine ⟨_, rfl, ?_⟩; replace HO370 := am (Kd.R_below (rx HO370.out) hb); replace BK361 := am (bb hb (kx BK361.out)); replace HB := am (below_step (zb1 HB.out GE361.out) hb); (try clear hb); (try clear hb2); (try clear hk); (try clear hi)) | ((with_reducible refine gate_dst (N := 47) rfl ?_); (try (refine gate_guard (by rfl) ?_; dsimp only)); refine Kd.R_lit Kd.string _ 9 ?hg (N := 47) ?hd (xs := ([t362] : List ByteArray)) (inner := [.string t362]) (ok := fun _ => True) (okp := fun _ => True) ?hr ?hp (fun _ hk => hk) trivial (Below.refl _ _) (Nat.le_refl _) (by simp) ?_; (case hd => rfl); (case hg => rfl); (case hr => first | (go_simp; done) | (go_simp; rfl)); (case hp => exact (Reps.one (show Kd.M Kd.string _ _ _ t362 [.string t362] from rfl) (Reps.none _ _))); intro v373 w50 ho51 hb hg_ hnew_; clear hg_ hnew_; (first | rw [← Ny372.out] at ho51 | (simp only [Int.reduceToNat] at ho51; rw [← Ny372.out] at ho51)); have HO374 := am (Kd.R_lower ho51 (below_size (zb1 HB.out GE361.out))); replace HO370 := am (Kd.R_below (rx HO370.out) hb); replace BK361 := am (bb hb (kx BK361.out)); replace HB := am (below_step (zb1 HB.out GE361.out) hb); clear hb ho51; obtain ⟨Ao52, co52, eo52⟩ := Kd.R_slice HO374.out; subst eo52) | ((with_reducible refine gate_callee (f := 103) rfl ?_); refine goesL_ (some 48) rfl rfl Tryz.func103 (by kernel_rfl) rfl #[.slice Ao52 y372.length co52] rfl zr ?_; (with_reducible refine (impl_shortTexts.calls kj3 _ _ y372 t375 _ ?side1 ?side2 A19.out).mono ?_); (case side1 => repeat (first | exact (Kd.R_reads' HO374.out).2.2 | (with_reducible refine Kd.C_alloc ?_ _) | (with_reducible refine Kd.C_drewN ?_ _) | (with_reducible refine Kd.C_drew ?_))); (case side2 => exact (Kd.R_reads' HO374.out).2.1); rintro e w53 ⟨rfl, hb⟩; refine ⟨_, rfl, ?_⟩; replace HO370 := am (Kd.R_below (rx HO370.out) hb); replace HO374 := am (Kd.R_below (rx HO374.out) hb); replace BK361 := am (bb hb (kx BK361.out)); replace HB := am (below_step (zb1 HB.out GE361.out) hb); (try clear hb); (try clear hb2); (try clear hk); (try clear hi)) | ((with_reducible refine gate_callee (f := 101) rfl ?_); refine goesL_ (some 52) rfl rfl Tryz.func101 (by kernel_rfl) rfl #[.string ((t371 ++ t375) ++ t364)] rfl zr ?_; (with_reducible refine (impl_Sealed.calls kj3 ((t371 ++ t375) ++ t364) t376 false _ A22.out).mono ?_); rintro e w54 ⟨rfl, hb⟩; refine ⟨_, rfl, ?_⟩; replace HO370 := am (Kd.R_below (rx HO370.out) hb); replace HO374 := am (Kd.R_below (rx HO374.out) hb); replace BK361 := am (bb hb (kx BK361.out)); replace HB := am (below_step (zb1 HB.out GE361.out) hb); (try clear hb); (try clear hb2); (try clear hk); (try clear hi)))
       go_ret2
       exact ⟨by first | rfl | (simp [errW_none, errW_some] <;> rfl) | (simp [*, errW_none, errW_some] <;> rfl), zb1 HB.out GE361.out⟩
     ·rw [if_neg c21] at H
      exact absurd H (by simp)
    ·rw [if_neg c20] at H
     exact absurd H (by simp)

-- NOT PRINTED: function 126 (impl_File)

/-! ### impl_placeOf: function 83, by hand -/ -- making
instance : Inhabited S63 := ⟨z63⟩
def impl_placeOf.f (l0_0 : List (S63)) (a1 : ByteArray) : Option (Int) := some (Lib.idxByFrom (fun (_ : S63) y => y.f0.toList == a1.toList) z63 l0_0 0)
def impl_placeOf.enc (x : S63) : List Value := [.string x.f0, .string x.f1, .int .i64 x.f2]
theorem impl_placeOf.pred (n : ByteArray) (B : Nat) (w : World) (hB : B < w.heap.size) (hcell : w.cell? ⟨B, 0, none⟩ = some (.string n)) :
  PredBelow Tryz.prog 127 #[.pointer (some ⟨B, 0, none⟩)] (fun x => .agg (impl_placeOf.enc x).toArray) (fun y => y.f0.toList == n.toList) w := fun W x hb => by
 have hc : W.cell? ⟨B, 0, none⟩ = some (.string n) := (hb.cell (p := ⟨B, 0, none⟩) hB).trans hcell
 have hBW : B < W.heap.size := Nat.lt_of_lt_of_le hB hb.size
 have hne : B ≠ W.heap.size := by omega
 show Calls Tryz.prog 127 #[.agg #[.string x.f0, .string x.f1, .int .i64 x.f2], .pointer (some ⟨B, 0, none⟩)] W _
 go_enter Tryz.func127, Tryz.ntmps127
 go_wp2
 all_goals (go_ret; exact ⟨by first | rfl | simp_all, hb.alloc hb.size _⟩)
theorem impl_placeOf.none_ (A : Option Addr) (c : Nat) (fv : Value) (w : World) : Calls Tryz.prog 126 #[.slice A 0 c, fv] w fun e w' => e = .returned (.int .i64 (-1)) ∧ Below w.heap.size w w' := by
 go_enter Tryz.func126, Tryz.ntmps126
 go_wp2
 go_loopg [8] 0 (fun gg s8 wr => s8 = .int .i64 0 ∧ wr = w)
 case atStart => exact ⟨rfl, rfl⟩
 case round =>
  obtain ⟨rfl, rfl⟩ := hrel
  go_wp2
  go_ret
  exact ⟨rfl, Below.refl _ _⟩
set_option maxHeartbeats 2000000 in
theorem impl_placeOf.calls (A0_0 : Option Addr) (c0_0 : Nat) (l0_0 : List (S63)) (a1 : ByteArray) (r : Int) (w : World) (hr0_0 : Kd.C k63 w A0_0 l0_0.length l0_0) (hc0_0 : l0_0.length ≤ c0_0) (h : impl_placeOf.f l0_0 a1 = some r) :
  Calls Tryz.prog 83 #[.agg #[.slice A0_0 l0_0.length c0_0], .string a1] w fun e w' => e = .returned (.int .i64 r) ∧ Below w.heap.size w w' := by
 obtain rfl := Option.some.inj h
 clear h
 have hcon : Calls Tryz.prog 126 #[.slice A0_0 l0_0.length c0_0, .func (.func 127) #[] #[.pointer (some ⟨w.heap.size + 1, 0, none⟩)]] ((w.alloc (.cells #[.slice A0_0 l0_0.length c0_0] 30)).alloc (.cells #[.string a1] 9))
   fun e w' => e = .returned (.int .i64 (Lib.idxByFrom (fun (_ : S63) y => y.f0.toList == a1.toList) z63 l0_0 0)) ∧ Below ((w.alloc (.cells #[.slice A0_0 l0_0.length c0_0] 30)).alloc (.cells #[.string a1] 9)).heap.size ((w.alloc (.cells #[.slice A0_0 l0_0.length c0_0] 30)).alloc (.cells #[.string a1] 9)) w' := by
  cases hl : l0_0 with
  | nil => exact impl_placeOf.none_ _ _ _ _
  | cons x l =>
   rw [← hl]
   have hpos : (0 : Int) < l0_0.length := by rw [hl, List.length_cons]; omega
   obtain ⟨ad, ead, h0, _, _⟩ := at_T63 hr0_0 0 (by omega) hpos
   have hsp : ad.spot = none := World.cell?_spot h0
   have hbl : ad.block < w.heap.size := World.block_lt_of_cell? w _ h0
   obtain ⟨b, off, sp⟩ := ad
   obtain rfl : sp = none := hsp
   subst ead
   have eg : ∀ args W, (callFunc 127 args).run Tryz.prog W = .ok (.enter 127 args) W := enters_of Tryz.func127 (by kernel_rfl) rfl
   have hq := AnyQ.slices_IndexFunc Tryz.l126 3 Tryz.isAgg63 Tryz.sizeOf63 impl_placeOf.enc (fun _ => rfl) (fun y => y.f0.toList == a1.toList) 127 #[.pointer (some ⟨w.heap.size + 1, 0, none⟩)] eg b off l0_0.length c0_0 l0_0 ((w.alloc (.cells #[.slice (some ⟨b, off, none⟩) l0_0.length c0_0] 30)).alloc (.cells #[.string a1] 9))
    (impl_placeOf.pred a1 (w.heap.size + 1) _ (by simp) (by simp)) (Nat.le_refl _) hr0_0.2.1 (by have hbl' : b < w.heap.size := hbl; simp; omega) (fun j hj i v hi => by
     obtain ⟨ad, ead, h1, h2, h3⟩ := at_T63 hr0_0 (j : Int) (by omega) (by omega)
     cases ead
     have ej : rd_T63 l0_0 (j : Int) = l0_0[j]! := by unfold rd_T63; rw [show ((j : Int)).toNat = j by omega, List.getD_eq_getElem?_getD, getElem!_def]; cases l0_0[j]? <;> rfl
     have e0 : (Addr.add ⟨b, off, none⟩ ((j : Int).toNat * 3)) = ⟨b, off + j * 3, none⟩ := by rw [show ((j : Int)).toNat = j by omega, Addr.add_lit]
     rw [e0, ej] at h1 h2 h3
     clear e0 ej
     generalize l0_0[j]! = y at hi h1 h2 h3
     refine Lib.cell?_alloc_some _ (Lib.cell?_alloc_some _ ?_)
     match i, hi with
     | 0, hi => simp [impl_placeOf.enc] at hi; rw [← hi]; exact h1
     | 1, hi => simp [impl_placeOf.enc] at hi; rw [← hi]; exact h2
     | 2, hi => simp [impl_placeOf.enc] at hi; rw [← hi]; exact h3
     | i + 3, hi => simp [impl_placeOf.enc] at hi)
   rw [List.take_length] at hq
   exact hq
 go_enter Tryz.func83, Tryz.ntmps83
 go_wp2_with (go_at_call 126; refine hcon.mono ?_; rintro e w' ⟨rfl, hb'⟩)
 go_ret
 exact ⟨rfl, (below_alloc (below_alloc (Below.refl _ _) _) _).trans (hb'.mono (by simp; omega))⟩

/-! ### impl_hasFile: function 60 -/
def impl_hasFile.f (l0_0 : List (S63)) (a1 : ByteArray) : Option (Bool) := (impl_placeOf.f l0_0 a1).bind fun t379 => (some (decide (t379 ≥ 0)))
set_option maxHeartbeats 8000000 in
set_option maxRecDepth 100000 in
theorem impl_hasFile.calls (A0_0 : Option Addr) (c0_0 : Nat) (l0_0 : List (S63)) (a1 : ByteArray) (r : Bool) (w : World) (hr0_0 : Kd.C k63 w A0_0 l0_0.length l0_0) (hc0_0 : l0_0.length ≤ c0_0) (h : impl_hasFile.f l0_0 a1 = some r) :
  Calls Tryz.prog 60 #[.agg #[.slice A0_0 l0_0.length c0_0], .string a1] w fun e w' => e = .returned (.bool r) ∧ Below w.heap.size w w' := by
 have hu30 := Tryz.underlying30
 have HR0_0 := Aside0.mk hr0_0
 have HC0_0 := Aside0.mk hc0_0
 clear hr0_0 hc0_0
 have HB := Aside0.mk (Below.refl w.heap.size w)
 have H : ((impl_placeOf.f l0_0 a1).bind fun t379 => (some (decide (t379 ≥ 0)))) = some r := h
 clear h
 replace H := Option.bind_eq_some_iff.mp H
 obtain ⟨t379, A30, H⟩ := H
 try dsimp only at H
 have A3 := Aside0.mk A30
 clear A30
 obtain rfl := Option.some.inj H
 go_enter Tryz.func60, Tryz.ntmps60
 go_wp2_with (first | ((with_reducible refine gate_dst (N := 2) rfl ?_); refine box_event ?hg (N := 2) ?hd (cs := #[.slice A0_0 l0_0.length c0_0]) (t := 30) ?hr ?_; (case hd => rfl); (case hg => rfl); (case hr => first | (go_simp; done) | (go_simp; rfl)); intro gb378 hg w4 hbox hb; have BK378 := am (hbox); have GW378 := zge hg (zb0 HB.out); have GE378 := zge hg (zb0 HB.out); replace HB := am (below_step (zb0 HB.out) hb); clear hb hbox hg; obtain ⟨hcz5_0, hfz5_0⟩ := zc1 BK378.out) | ((with_reducible refine gate_callee (f := 83) rfl ?_); refine goesL_ (some 7) rfl rfl Tryz.func83 (by kernel_rfl) rfl #[.agg #[.slice A0_0 l0_0.length c0_0], .string a1] rfl zr ?_; (with_reducible refine (impl_placeOf.calls _ _ l0_0 a1 t379 _ ?side1 ?side2 A3.out).mono ?_); (case side1 => repeat (first | exact (Kd.C_below HR0_0.out HB.out) | (with_reducible refine Kd.C_alloc ?_ _) | (with_reducible refine Kd.C_drewN ?_ _) | (with_reducible refine Kd.C_drew ?_))); (case side2 => exact HC0_0.out); rintro e w6 ⟨rfl, hb⟩; refine ⟨_, rfl, ?_⟩; replace BK378 := am (bb hb (kx BK378.out)); replace HB := am (below_step (zb1 HB.out GE378.out) hb); (try clear hb); (try clear hb2); (try clear hk); (try clear hi)))
 go_ret
 exact ⟨by first | rfl | (simp [errW_none, errW_some] <;> rfl) | (simp [*, errW_none, errW_some] <;> rfl), zb1 HB.out GE378.out⟩

end Go.Proofs.YtogifkjkbfdocaaGreatDoor.QFnExactSnapActs
