/- Written by the kit's print.py, called by our own print2.sh with one import more; not by print.sh. -/
import Derived.Test.YtogifkjkbfdocaaGreatDoorQFnExactSnapActsx0
import Derived.Test.YtogifkjkbfdocaaGreatDoorQFnExactSnapActsx5
import Derived.Test.YtogifkjkbfdocaaGreatDoorQFnExactSnapActsx6
import Derived.Test.YtogifkjkbfdocaaGreatDoorQFnExactSnapActsx8
namespace Go.Proofs.YtogifkjkbfdocaaGreatDoor.QFnExactSnapActs
open Go.RowKit Go.Proofs.YtogifkjkbfdocaaGreatDoorW.PrintWords Go.Proofs.YtogifkjkbfdocaaGreatDoorW.PrintLast Go.Proofs.YtogifkjkbfdocaaGreatDoorW.PrintMore
attribute [local go_sem] max2_int min2_int max_two min_two max_three min_three max_four min_four   -- for this text's walks alone
open Go.Proofs.YtogifkjkbfdocaaGreatDoor.Laid
open Go.Proofs.YtogifkjkbfdocaaGreatDoor.Short
set_option linter.unusedVariables false
set_option linter.unusedSimpArgs false

/-! ### spec_SnapActs: function 21 -/
mutual
def spec_SnapActs.j0 : Nat → ByteArray → Bool → List (S63) → Int → Int → List Int → ByteArray → Option ((List (S67)) × Bool)
 | 0, _, _, _, _, _, _, _ => none
 | k + 1, x6, x21, x240000, x241000, x241001, x241002, x241003 => if x21 = true then (some ((([] : List (S67))), false)) else ((spec_l08New.f k x240000).bind fun t247 => (spec_SnapActs.l0 k x6 t247 x240000 x241000 x241001 x241002 x241003))
def spec_SnapActs.l0 : Nat → ByteArray → List (S67) → List (S63) → Int → Int → List Int → ByteArray → Option ((List (S67)) × Bool)
 | 0, _, _, _, _, _, _, _ => none
 | k + 1, x6, x8, x240000, x241000, x241001, x241002, x241003 => if (x6.size : Int) > 0 then (if 60 > (x6.size : Int) then (if 0 ≤ (x6.size : Int) then (if (x6.size : Int) ≤ (x6.size : Int) then (if x8.length < 2513169434916 then (spec_SnapActs.l0 k (x6.extract ((x6.size : Int) : Int).toNat x6.size) (x8 ++ [(⟨1, (⟨#[115, 43]⟩ : ByteArray), x6.extract 0 ((x6.size : Int) : Int).toNat, (⟨#[]⟩ : ByteArray)⟩ : S67)]) x240000 x241000 x241001 x241002 x241003) else (none)) else (none)) else (none)) else (if 0 ≤ 60 then (if 60 ≤ (x6.size : Int) then (if x8.length < 2513169434916 then (spec_SnapActs.l0 k (x6.extract 60 x6.size) (x8 ++ [(⟨1, (⟨#[115, 43]⟩ : ByteArray), x6.extract 0 60, (⟨#[]⟩ : ByteArray)⟩ : S67)]) x240000 x241000 x241001 x241002 x241003) else (none)) else (none)) else (none))) else ((spec_SnapName.f k x241000).bind fun t256 => ((some (([(⟨2, (⟨#[115, 43]⟩ : ByteArray), (⟨#[]⟩ : ByteArray), (⟨#[]⟩ : ByteArray)⟩ : S67), (⟨3, (⟨#[115, 43]⟩ : ByteArray), (⟨#[]⟩ : ByteArray), t256⟩ : S67)] : List (S67)) : List (S67))).bind fun y257 => (if x8.length + y257.length < 2513169434916 then ((some (x8 ++ y257 : List (S67))).bind fun y260 => ((spec_l08Drops.f k x240000 x241000).bind fun t263 => (if y260.length + t263.length < 2513169434916 then (some ((y260 ++ t263), true)) else (none)))) else (none))))
end
def spec_SnapActs.f (k : Nat) (l0_0 : List (S63)) (a1_0 : Int) (a1_1 : Int) (l1_2 : List Int) (a1_3 : ByteArray) : Option ((List (S67)) × Bool) := (spec_SnapText.f k a1_0 a1_1 l1_2 a1_3).bind fun bt241 => (if bt241.2 = true then ((spec_DiskOk.f k l0_0).bind fun t243 => (spec_SnapActs.j0 k bt241.1 (!t243) l0_0 a1_0 a1_1 l1_2 a1_3)) else (spec_SnapActs.j0 k bt241.1 true l0_0 a1_0 a1_1 l1_2 a1_3))
theorem spec_SnapActs.mono_l : ∀ k, (∀ y0 y1 y2 y3 y4 y5 y6, LeO (spec_SnapActs.j0 k y0 y1 y2 y3 y4 y5 y6) (spec_SnapActs.j0 (k + 1) y0 y1 y2 y3 y4 y5 y6)) ∧ (∀ y0 y1 y2 y3 y4 y5 y6, LeO (spec_SnapActs.l0 k y0 y1 y2 y3 y4 y5 y6) (spec_SnapActs.l0 (k + 1) y0 y1 y2 y3 y4 y5 y6))
 | 0 => ⟨fun _ _ _ _ _ _ _ r h => by simp [spec_SnapActs.j0] at h, fun _ _ _ _ _ _ _ r h => by simp [spec_SnapActs.l0] at h⟩
 | k + 1 => by
  obtain ⟨ih0, ih1⟩ := spec_SnapActs.mono_l k
  refine ⟨?_, ?_⟩
  ·intro y0 y1 y2 y3 y4 y5 y6
   unfold spec_SnapActs.j0
   repeat' first
   | (with_reducible exact ih0 _ _ _ _ _ _ _)
   | (with_reducible exact ih1 _ _ _ _ _ _ _)
   | (with_reducible exact spec_DiskOk.mono _ _)
   | (with_reducible exact spec_SnapName.mono _ _)
   | (with_reducible exact spec_SnapText.mono _ _ _ _ _)
   | (with_reducible exact spec_l08Drops.mono _ _ _)
   | (with_reducible exact spec_l08New.mono _ _)
   | (with_reducible exact LeO.refl _)
   | (with_reducible exact LeO.none _)
   | (with_reducible refine LeO.ite ?_ ?_)
   | (with_reducible refine LeO.bind ?_ (fun _ => ?_))
   | exact ih0 _ _ _ _ _ _ _
   | exact ih1 _ _ _ _ _ _ _
   | exact spec_DiskOk.mono _ _
   | exact spec_SnapName.mono _ _
   | exact spec_SnapText.mono _ _ _ _ _
   | exact spec_l08Drops.mono _ _ _
   | exact spec_l08New.mono _ _
   | exact LeO.none _
   | refine LeO.ite ?_ ?_
   | refine LeO.bind ?_ (fun _ => ?_)
  ·intro y0 y1 y2 y3 y4 y5 y6
   unfold spec_SnapActs.l0
   repeat' first
   | (with_reducible exact ih0 _ _ _ _ _ _ _)
   | (with_reducible exact ih1 _ _ _ _ _ _ _)
   | (with_reducible exact spec_DiskOk.mono _ _)
   | (with_reducible exact spec_SnapName.mono _ _)
   | (with_reducible exact spec_SnapText.mono _ _ _ _ _)
   | (with_reducible exact spec_l08Drops.mono _ _ _)
   | (with_reducible exact spec_l08New.mono _ _)
   | (with_reducible exact LeO.refl _)
   | (with_reducible exact LeO.none _)
   | (with_reducible refine LeO.ite ?_ ?_)
   | (with_reducible refine LeO.bind ?_ (fun _ => ?_))
   | exact ih0 _ _ _ _ _ _ _
   | exact ih1 _ _ _ _ _ _ _
   | exact spec_DiskOk.mono _ _
   | exact spec_SnapName.mono _ _
   | exact spec_SnapText.mono _ _ _ _ _
   | exact spec_l08Drops.mono _ _ _
   | exact spec_l08New.mono _ _
   | exact LeO.none _
   | refine LeO.ite ?_ ?_
   | refine LeO.bind ?_ (fun _ => ?_)
theorem spec_SnapActs.mono : ∀ a0 a1 a2 a3 a4 k, LeO (spec_SnapActs.f k a0 a1 a2 a3 a4) (spec_SnapActs.f (k + 1) a0 a1 a2 a3 a4) := by
 intro a0 a1 a2 a3 a4 k
 obtain ⟨ih0, ih1⟩ := spec_SnapActs.mono_l k
 unfold spec_SnapActs.f
 repeat' first
   | (with_reducible exact ih0 _ _ _ _ _ _ _)
   | (with_reducible exact ih1 _ _ _ _ _ _ _)
   | (with_reducible exact spec_DiskOk.mono _ _)
   | (with_reducible exact spec_SnapName.mono _ _)
   | (with_reducible exact spec_SnapText.mono _ _ _ _ _)
   | (with_reducible exact spec_l08Drops.mono _ _ _)
   | (with_reducible exact spec_l08New.mono _ _)
   | (with_reducible exact LeO.refl _)
   | (with_reducible exact LeO.none _)
   | (with_reducible refine LeO.ite ?_ ?_)
   | (with_reducible refine LeO.bind ?_ (fun _ => ?_))
   | exact ih0 _ _ _ _ _ _ _
   | exact ih1 _ _ _ _ _ _ _
   | exact spec_DiskOk.mono _ _
   | exact spec_SnapName.mono _ _
   | exact spec_SnapText.mono _ _ _ _ _
   | exact spec_l08Drops.mono _ _ _
   | exact spec_l08New.mono _ _
   | exact LeO.none _
   | refine LeO.ite ?_ ?_
   | refine LeO.bind ?_ (fun _ => ?_)
set_option maxHeartbeats 8000000 in
set_option maxRecDepth 100000 in
theorem spec_SnapActs.calls (k : Nat) (A0_0 : Option Addr) (c0_0 : Nat) (l0_0 : List (S63)) (a1_0 : Int) (a1_1 : Int) (A1_2 : Option Addr) (c1_2 : Nat) (l1_2 : List Int) (a1_3 : ByteArray) (r1 : List (S67)) (r2 : Bool) (w : World) (hr0_0 : Kd.C k63 w A0_0 l0_0.length l0_0) (hc0_0 : l0_0.length ≤ c0_0) (hr1_2 : Kd.C (Kd.int .i64) w A1_2 l1_2.length l1_2) (hc1_2 : l1_2.length ≤ c1_2) (h : spec_SnapActs.f k l0_0 a1_0 a1_1 l1_2 a1_3 = some (r1, r2)) :
  Calls Tryz.prog 21 #[.agg #[.slice A0_0 l0_0.length c0_0], .agg #[.int .i64 a1_0, .int .i64 a1_1, .slice A1_2 l1_2.length c1_2, .string a1_3]] w fun e w' => ∃ v0_ : Value, e = .returned (.tuple #[v0_, .bool r2]) ∧ Kd.R k67 67 w' w.heap.size (fun _ => True) v0_ r1 ∧ Below w.heap.size w w' := by
 have hu30 := Tryz.underlying30
 have hu52 := Tryz.underlying52
 have hu67 := Tryz.underlying67
 have HR0_0 := Aside0.mk hr0_0
 have HC0_0 := Aside0.mk hc0_0
 clear hr0_0 hc0_0
 have HR1_2 := Aside0.mk hr1_2
 have HC1_2 := Aside0.mk hc1_2
 clear hr1_2 hc1_2
 have HB := Aside0.mk (Below.refl w.heap.size w)
 have H : ((spec_SnapText.f k a1_0 a1_1 l1_2 a1_3).bind fun bt241 => (if bt241.2 = true then ((spec_DiskOk.f k l0_0).bind fun t243 => (spec_SnapActs.j0 k bt241.1 (!t243) l0_0 a1_0 a1_1 l1_2 a1_3)) else (spec_SnapActs.j0 k bt241.1 true l0_0 a1_0 a1_1 l1_2 a1_3))) = some (r1, r2) := h
 clear h
 replace H := Option.bind_eq_some_iff.mp H
 obtain ⟨⟨t241, t242⟩, A30, H⟩ := H
 try dsimp only at H
 have A3 := Aside0.mk A30
 clear A30
 have HC4 := Aside0.mk H
 clear H
 go_enter Tryz.func21, Tryz.ntmps21
 go_upto_region 2 with (first | ((with_reducible refine gate_dst (N := 2) rfl ?_); refine box_event ?hg (N := 2) ?hd (cs := #[.slice A0_0 l0_0.length c0_0]) (t := 30) ?hr ?_; (case hd => rfl); (case hg => rfl); (case hr => first | (go_simp; done) | (go_simp; rfl)); intro gb239 hg w5 hbox hb; have BK239 := am (hbox); have GW239 := zge hg (zb0 HB.out); have GE239 := zge hg (zb0 HB.out); replace HB := am (below_step (zb0 HB.out) hb); clear hb hbox hg) | ((with_reducible refine gate_dst (N := 3) rfl ?_); refine box_event ?hg (N := 3) ?hd (cs := #[.int .i64 a1_0, .int .i64 a1_1, .slice A1_2 l1_2.length c1_2, .string a1_3]) (t := 52) ?hr ?_; (case hd => rfl); (case hg => rfl); (case hr => first | (go_simp; done) | (go_simp; rfl)); intro gb240 hg w6 hbox hb; have BK240 := am (hbox); have GW240 := zge hg (zb1 HB.out GE239.out); have GE240 := zge hg (zb1 HB.out GE239.out); have NB239_240 := znl hg (kx BK239.out); have NB240_239 := zng hg (kx BK239.out); replace BK239 := am (bb hb (kx BK239.out)); replace HB := am (below_step (zb1 HB.out GE239.out) hb); clear hb hbox hg; have hnb7 := NB240_239.out; have hnc7 := NB239_240.out; obtain ⟨hcz8_0, hcz8_1, hcz8_2, hcz8_3, hfz8_0, hfz8_1, hfz8_2, hfz8_3⟩ := zc4 BK240.out) | ((with_reducible refine gate_callee (f := 56) rfl ?_); refine goesL_ (some 12) rfl rfl Tryz.func56 (by kernel_rfl) rfl #[.agg #[.int .i64 a1_0, .int .i64 a1_1, .slice A1_2 l1_2.length c1_2, .string a1_3]] rfl zr ?_; (with_reducible refine (spec_SnapText.calls k a1_0 a1_1 _ _ l1_2 a1_3 t241 t242 _ ?side1 ?side2 A3.out).mono ?_); (case side1 => repeat (first | exact (Kd.C_below HR1_2.out HB.out) | (with_reducible refine Kd.C_alloc ?_ _) | (with_reducible refine Kd.C_drewN ?_ _) | (with_reducible refine Kd.C_drew ?_))); (case side2 => exact HC1_2.out); rintro e w9 ⟨rfl, hb⟩; refine ⟨_, rfl, ?_⟩; replace BK239 := am (bb hb (kx BK239.out)); replace BK240 := am (bb hb (kx BK240.out)); replace HB := am (below_step (zb2 HB.out GE239.out GE240.out) hb); (try clear hb); (try clear hb2); (try clear hk); (try clear hi)))
 (try simp only [Act.put, List.setIfInBounds_toArray, List.set_cons_zero, List.set_cons_succ])
 go_cut [21] (fun v21 wc => ∃ (kq : Nat) (x21_3 : Bool), v21 = .bool x21_3 ∧ Aside0 (spec_SnapActs.j0 kq t241 x21_3 l0_0 a1_0 a1_1 l1_2 a1_3 = some (r1, r2)) ∧ Aside0 (kq ≤ k) ∧ Aside0 (wc.heap[gb239]? = some (.cells #[(.slice A0_0 l0_0.length c0_0)] 30 (0, 0))) ∧ Aside0 (wc.heap[gb240]? = some (.cells #[.int .i64 a1_0, .int .i64 a1_1, (.slice A1_2 l1_2.length c1_2), .string a1_3] 52 (0, 0))) ∧ Aside0 (Below w.heap.size w wc))
 case first =>
  have H := HC4.out
  clear HC4
  by_cases c10 : t242 = true
  ·subst c10
   have H1 : ((spec_DiskOk.f k l0_0).bind fun t243 => (spec_SnapActs.j0 k t241 (!t243) l0_0 a1_0 a1_1 l1_2 a1_3)) = some (r1, r2) := by rw [if_pos rfl] at H; exact H
   clear H
   have H := H1
   clear H1
   replace H := Option.bind_eq_some_iff.mp H
   obtain ⟨t243, A110, H⟩ := H
   try dsimp only at H
   have A11 := Aside0.mk A110
   clear A110
   have H' := Aside0.mk H
   clear H
   have hnb12 := NB239_240.out
   have hnc12 := NB240_239.out
   obtain ⟨hcz13_0, hfz13_0⟩ := zc1 BK239.out
   go_wp2_with (first | (go_at_call 38; (with_reducible refine (spec_DiskOk.calls k _ _ l0_0 t243 _ ?side1 ?side2 A11.out).mono ?_); (case side1 => repeat (first | exact (Kd.C_below HR0_0.out HB.out) | (with_reducible refine Kd.C_alloc ?_ _) | (with_reducible refine Kd.C_drewN ?_ _) | (with_reducible refine Kd.C_drew ?_))); (case side2 => exact HC0_0.out); rintro e w14 ⟨rfl, hb⟩; replace BK239 := am (bb hb (kx BK239.out)); replace BK240 := am (bb hb (kx BK240.out)); replace HB := am (below_step (zb2 HB.out GE239.out GE240.out) hb); (try clear hb); (try clear hb2); (try clear hk); (try clear hi)))
   go_meet
   case rel => exact ⟨_, (!t243), (by first | rfl | (simp; done) | (simp [*]; done)), H', ⟨by first | omega | exact Nat.le_refl _⟩, ⟨kx BK239.out⟩, ⟨kx BK240.out⟩, ⟨zb2 HB.out GE239.out GE240.out⟩⟩
  ·replace c10 := Bool.eq_false_iff.mpr c10
   subst c10
   have H1 : (spec_SnapActs.j0 k t241 true l0_0 a1_0 a1_1 l1_2 a1_3) = some (r1, r2) := by rw [if_neg (show ¬ (false = true) by decide)] at H; exact H
   clear H
   have H := H1
   clear H1
   have H' := Aside0.mk H
   clear H
   go_wp2
   go_meet
   case rel => exact ⟨_, (true), (by first | rfl | (simp; done) | (simp [*]; done)), H', ⟨by first | omega | exact Nat.le_refl _⟩, ⟨kx BK239.out⟩, ⟨kx BK240.out⟩, ⟨zb2 HB.out GE239.out GE240.out⟩⟩
 case rest =>
  clear HC4
  try clear c1
  try clear c2
  try clear p2
  try clear c5
  try clear c7
  try clear c10
  try clear c12
  try clear hcz13_0
  try clear hcz8_0
  try clear hcz8_1
  try clear hcz8_2
  try clear hcz8_3
  try clear hfz13_0
  try clear hfz8_0
  try clear hfz8_1
  try clear hfz8_2
  try clear hfz8_3
  obtain ⟨kq, x21_3, rfl, HA, HJ3, BK239, BK240, HB⟩ := hcut
  cases kq with
  | zero => exact absurd HA.out (by simp [spec_SnapActs.j0])
  | succ kj3 =>
   have H := HA.out
   clear HA
   simp only [spec_SnapActs.j0] at H
   by_cases c15 : x21_3 = true
   ·subst c15
    have H1 : (some ((([] : List (S67))), false)) = some (r1, r2) := by rw [if_pos rfl] at H; exact H
    clear H
    have H := H1
    clear H1
    obtain ⟨y244, hy244⟩ : ∃ y_ : List (S67), y_ = (([] : List (S67))) := ⟨_, rfl⟩
    replace H : (some (y244, false)) = some (r1, r2) := by first | (rw [hy244]; with_reducible exact H) | (have H2_ := (Option.bind_some _ _).symm.trans H; rw [hy244]; with_reducible exact H2_) | (have H2_ := (Option.bind_some _ _).symm.trans H; with_reducible exact H2_) | with_reducible exact H | (rw [hy244]; exact H) | exact H
    have Ny244 := Aside0.mk hy244
    clear hy244
    simp only [Option.some.injEq, Prod.mk.injEq] at H
    obtain ⟨rfl, rfl⟩ := H
    go_wp2_with (first | ((with_reducible refine gate_dst (N := 22) rfl ?_); refine Kd.R_lit k67 _ 67 ?hg (N := 22) ?hd (xs := ([] : List (S67))) (inner := []) (ok := fun _ => True) (okp := fun _ => True) ?hr ?hp (fun _ hk => hk) trivial (Below.refl _ _) (Nat.le_refl _) (by simp) ?_; (case hd => rfl); (case hg => rfl); (case hr => first | (go_simp; done) | (go_simp; rfl)); (case hp => exact (Reps.none _ _)); intro v245 w16 ho17 hb hg_ hnew_; clear hg_ hnew_; (first | rw [← Ny244.out] at ho17 | (simp only [Int.reduceToNat] at ho17; rw [← Ny244.out] at ho17)); have HO246 := am (Kd.R_lower ho17 (below_size (zb2 HB.out GE239.out GE240.out))); replace BK239 := am (bb hb (kx BK239.out)); replace BK240 := am (bb hb (kx BK240.out)); replace HB := am (below_step (zb2 HB.out GE239.out GE240.out) hb); clear hb ho17))
    go_ret2
    exact ⟨_, by first | rfl | (simp [errW_none, errW_some] <;> rfl) | (simp [*, errW_none, errW_some] <;> rfl), rx HO246.out, zb2 HB.out GE239.out GE240.out⟩
   ·replace c15 := Bool.eq_false_iff.mpr c15
    subst c15
    have H1 : ((spec_l08New.f kj3 l0_0).bind fun t247 => (spec_SnapActs.l0 kj3 t241 t247 l0_0 a1_0 a1_1 l1_2 a1_3)) = some (r1, r2) := by rw [if_neg (show ¬ (false = true) by decide)] at H; exact H
    clear H
    have H := H1
    clear H1
    replace H := Option.bind_eq_some_iff.mp H
    obtain ⟨t247, A180, H⟩ := H
    try dsimp only at H
    have A18 := Aside0.mk A180
    clear A180
    have H' := Aside0.mk H
    clear H
    have hnb19 := NB239_240.out
    have hnc19 := NB240_239.out
    obtain ⟨hcz20_0, hfz20_0⟩ := zc1 BK239.out
    go_wp2_with (first | ((with_reducible refine gate_callee (f := 28) rfl ?_); refine goesL_ (some 24) rfl rfl Tryz.func28 (by kernel_rfl) rfl #[.agg #[.slice A0_0 l0_0.length c0_0]] rfl zr ?_; (with_reducible refine (spec_l08New.calls kj3 _ _ l0_0 t247 _ ?side1 ?side2 A18.out).mono ?_); (case side1 => repeat (first | exact (Kd.C_below HR0_0.out HB.out) | (with_reducible refine Kd.C_alloc ?_ _) | (with_reducible refine Kd.C_drewN ?_ _) | (with_reducible refine Kd.C_drew ?_))); (case side2 => exact HC0_0.out); rintro e w21 ⟨v248, rfl, ho0, hb⟩; refine ⟨_, rfl, ?_⟩; have HO249 := am (Kd.R_lower ho0 (below_size (zb2 HB.out GE239.out GE240.out))); replace BK239 := am (bb hb (kx BK239.out)); replace BK240 := am (bb hb (kx BK240.out)); replace HB := am (below_step (zb2 HB.out GE239.out GE240.out) hb); (try clear hb); (try clear hb2); (try clear hk); (try clear hi); (try clear ho0)))
    go_loopg [6, 8] kj3 (fun kq v6 v8 w' => ∃ (x6_2 : ByteArray) (x8_2 : List (S67)), v6 = .string x6_2 ∧ Aside0 (spec_SnapActs.l0 kq x6_2 x8_2 l0_0 a1_0 a1_1 l1_2 a1_3 = some (r1, r2)) ∧ Aside0 (kq ≤ kj3) ∧ Aside0 (Kd.R k67 67 w' w.heap.size (fun _ => True) v8 x8_2) ∧ Aside0 (w'.heap[gb239]? = some (.cells #[(.slice A0_0 l0_0.length c0_0)] 30 (0, 0))) ∧ Aside0 (w'.heap[gb240]? = some (.cells #[.int .i64 a1_0, .int .i64 a1_1, (.slice A1_2 l1_2.length c1_2), .string a1_3] 52 (0, 0))) ∧ Aside0 (Below w.heap.size w w'))
    case atStart => exact ⟨(t241), (t247), (by first | rfl | (simp; done) | (simp [*]; done)), H', ⟨Nat.le_refl _⟩, ⟨rx HO249.out⟩, ⟨kx BK239.out⟩, ⟨kx BK240.out⟩, ⟨zb2 HB.out GE239.out GE240.out⟩⟩
    case round =>
     clear H'
     try clear c1
     try clear c2
     try clear p2
     try clear c5
     try clear c7
     try clear c10
     try clear c12
     try clear c15
     try clear c19
     try clear c21
     try clear hcz13_0
     try clear hcz20_0
     try clear hcz8_0
     try clear hcz8_1
     try clear hcz8_2
     try clear hcz8_3
     try clear hfz13_0
     try clear hfz20_0
     try clear hfz8_0
     try clear hfz8_1
     try clear hfz8_2
     try clear hfz8_3
     try clear p2
     obtain ⟨x6_2, x8_2, rfl, HA, HK2, HO_8, BK239, BK240, HB⟩ := hrel
     cases gk with
     | zero => exact absurd HA.out (by simp [spec_SnapActs.l0])
     | succ k2 =>
      have H := HA.out
      clear HA
      simp only [spec_SnapActs.l0] at H
      by_cases c22 : (x6_2.size : Int) > 0
      ·rw [if_pos c22] at H
       have c22b0 : decide (0 < (x6_2.size : Int)) = true := decide_eq_true c22
       have c22b1 : decide (0 < x6_2.size) = true := decide_eq_true (by omega)
       clear c22
       by_cases c23 : 60 > (x6_2.size : Int)
       ·rw [if_pos c23] at H
        have c23b0 : decide ((x6_2.size : Int) < 60) = true := decide_eq_true c23
        have c23b1 : decide (x6_2.size < 60) = true := decide_eq_true (by omega)
        clear c23
        by_cases c24 : 0 ≤ (x6_2.size : Int)
        ·rw [if_pos c24] at H
         have c24b0 := eq_true c24
         have c24b1 : decide (0 ≤ (x6_2.size : Int)) = true := decide_eq_true c24
         clear c24
         by_cases c25 : (x6_2.size : Int) ≤ (x6_2.size : Int)
         ·rw [if_pos c25] at H
          have c25b0 := eq_true c25
          have c25b1 : decide ((x6_2.size : Int) ≤ (x6_2.size : Int)) = true := decide_eq_true c25
          clear c25
          by_cases c26 : x8_2.length < 2513169434916
          ·rw [if_pos c26] at H
           have LMc26 := Aside0.mk c26
           clear c26
           have ee_ : x6_2.extract 0 ((x6_2.size : Int) : Int).toNat = x6_2 := by simp
           rw [ee_] at H
           clear ee_
           obtain ⟨y250, hy250⟩ : ∃ y_ : List (S67), y_ = (x8_2 ++ [(⟨1, (⟨#[115, 43]⟩ : ByteArray), x6_2, (⟨#[]⟩ : ByteArray)⟩ : S67)]) := ⟨_, rfl⟩
           replace H : (spec_SnapActs.l0 k2 (x6_2.extract ((x6_2.size : Int) : Int).toNat x6_2.size) y250 l0_0 a1_0 a1_1 l1_2 a1_3) = some (r1, r2) := by first | (rw [hy250]; with_reducible exact H) | (have H2_ := (Option.bind_some _ _).symm.trans H; rw [hy250]; with_reducible exact H2_) | (have H2_ := (Option.bind_some _ _).symm.trans H; with_reducible exact H2_) | with_reducible exact H | (rw [hy250]; exact H) | exact H
           have Ny250 := Aside0.mk hy250
           clear hy250
           have c27b0 := eq_true (of_decide_eq_true (by first | (with_reducible assumption) | assumption) : 0 ≤ (x6_2.size : Int))
           have c28b0 := eq_true (of_decide_eq_true (by first | (with_reducible assumption) | assumption) : (x6_2.size : Int) ≤ (x6_2.size : Int))
           have H' := Aside0.mk H
           clear H
           go_wp2_with (first | ((with_reducible refine gate_builtin (b := .append) (xs := #[.tmp 34, .tmp 39]) rfl ?_); at_builtin; refine Kd.R_append k67 (w0 := w) w.heap.size rfl (.tmp 34) (.tmp 39) 26 67 (.agg #[(.int .i64 0), (.string ⟨#[]⟩), (.string ⟨#[]⟩), (.string ⟨#[]⟩)]) 56 rfl Tryz.underlying26 info67 rfl (by decide) (by omega) u8 x8_2 (⟨1, (⟨#[115, 43]⟩ : ByteArray), x6_2, (⟨#[]⟩ : ByteArray)⟩ : S67) [.int .i64 1, .string (⟨#[115, 43]⟩ : ByteArray), .string (x6_2), .string (⟨#[]⟩ : ByteArray)] (fun _ => True) (fun _ => False) rfl rfl ?aP (fun _ hk => hk.elim) ?aF ?aO ?aB ?aS ?aL ?_; (case aP => exact k67_mkM _ _ _ (⟨1, (⟨#[115, 43]⟩ : ByteArray), x6_2, (⟨#[]⟩ : ByteArray)⟩ : S67)); (case aB => exact (zb2 HB.out GE239.out GE240.out)); (case aF => exact (fun _ _ => trivial)); (case aO => exact (rx HO_8.out)); (case aS => exact (below_size (zb2 HB.out GE239.out GE240.out))); (case aL => have := LMc26.out; omega); intro v251 w29 ho hb hg hat; rw [← Ny250.out] at ho; have HO252 := am (ho); replace BK239 := am (blk_grown (g := gb239) (o := .cells #[.slice A0_0 l0_0.length c0_0] 30 (0, 0)) (kx BK239.out) hg (Kd.R_ne HO_8.out BK239.out (by decide))); replace BK240 := am (blk_grown (g := gb240) (o := .cells #[.int .i64 a1_0, .int .i64 a1_1, .slice A1_2 l1_2.length c1_2, .string a1_3] 52 (0, 0)) (kx BK240.out) hg (Kd.R_ne HO_8.out BK240.out (by decide))); replace HB := am (hb); clear HO_8; clear ho hb hg hat))
           go_roundg k2
           case measure => have := HJ3.out; have := HK2.out; omega
           case rel => exact ⟨(x6_2.extract ((x6_2.size : Int) : Int).toNat x6_2.size), (y250), (by first | rfl | (simp; done) | (simp [*]; done)), H', ⟨by have := HJ3.out; have := HK2.out; omega⟩, ⟨rx HO252.out⟩, ⟨kx BK239.out⟩, ⟨kx BK240.out⟩, ⟨zb2 HB.out GE239.out GE240.out⟩⟩
          ·rw [if_neg c26] at H
           exact absurd H (by simp)
         ·rw [if_neg c25] at H
          exact absurd H (by simp)
        ·rw [if_neg c24] at H
         exact absurd H (by simp)
       ·rw [if_neg c23] at H
        have c23b0 : decide ((x6_2.size : Int) < 60) = false := decide_eq_false c23
        have c23b1 : decide (x6_2.size < 60) = false := decide_eq_false (by omega)
        clear c23
        by_cases c30 : 0 ≤ 60
        ·rw [if_pos c30] at H
         have c30b0 := eq_true c30
         have c30b1 : decide (0 ≤ 60) = true := decide_eq_true c30
         clear c30
         by_cases c31 : 60 ≤ (x6_2.size : Int)
         ·rw [if_pos c31] at H
          have c31b0 := eq_true c31
          have c31b1 : decide (60 ≤ (x6_2.size : Int)) = true := decide_eq_true c31
          clear c31
          by_cases c32 : x8_2.length < 2513169434916
          ·rw [if_pos c32] at H
           have LMc32 := Aside0.mk c32
           clear c32
           obtain ⟨y253, hy253⟩ : ∃ y_ : List (S67), y_ = (x8_2 ++ [(⟨1, (⟨#[115, 43]⟩ : ByteArray), x6_2.extract 0 60, (⟨#[]⟩ : ByteArray)⟩ : S67)]) := ⟨_, rfl⟩
           replace H : (spec_SnapActs.l0 k2 (x6_2.extract 60 x6_2.size) y253 l0_0 a1_0 a1_1 l1_2 a1_3) = some (r1, r2) := by first | (rw [hy253]; with_reducible exact H) | (have H2_ := (Option.bind_some _ _).symm.trans H; rw [hy253]; with_reducible exact H2_) | (have H2_ := (Option.bind_some _ _).symm.trans H; with_reducible exact H2_) | with_reducible exact H | (rw [hy253]; exact H) | exact H
           have Ny253 := Aside0.mk hy253
           clear hy253
           have c33b0 := eq_true (of_decide_eq_true (by first | (with_reducible assumption) | assumption) : 60 ≤ (x6_2.size : Int))
           have H' := Aside0.mk H
           clear H
           go_wp2_with (first | ((with_reducible refine gate_builtin (b := .append) (xs := #[.tmp 34, .tmp 39]) rfl ?_); at_builtin; refine Kd.R_append k67 (w0 := w) w.heap.size rfl (.tmp 34) (.tmp 39) 26 67 (.agg #[(.int .i64 0), (.string ⟨#[]⟩), (.string ⟨#[]⟩), (.string ⟨#[]⟩)]) 56 rfl Tryz.underlying26 info67 rfl (by decide) (by omega) u8 x8_2 (⟨1, (⟨#[115, 43]⟩ : ByteArray), x6_2.extract 0 60, (⟨#[]⟩ : ByteArray)⟩ : S67) [.int .i64 1, .string (⟨#[115, 43]⟩ : ByteArray), .string (x6_2.extract 0 60), .string (⟨#[]⟩ : ByteArray)] (fun _ => True) (fun _ => False) rfl rfl ?aP (fun _ hk => hk.elim) ?aF ?aO ?aB ?aS ?aL ?_; (case aP => exact k67_mkM _ _ _ (⟨1, (⟨#[115, 43]⟩ : ByteArray), x6_2.extract 0 60, (⟨#[]⟩ : ByteArray)⟩ : S67)); (case aB => exact (zb2 HB.out GE239.out GE240.out)); (case aF => exact (fun _ _ => trivial)); (case aO => exact (rx HO_8.out)); (case aS => exact (below_size (zb2 HB.out GE239.out GE240.out))); (case aL => have := LMc32.out; omega); intro v254 w34 ho hb hg hat; rw [← Ny253.out] at ho; have HO255 := am (ho); replace BK239 := am (blk_grown (g := gb239) (o := .cells #[.slice A0_0 l0_0.length c0_0] 30 (0, 0)) (kx BK239.out) hg (Kd.R_ne HO_8.out BK239.out (by decide))); replace BK240 := am (blk_grown (g := gb240) (o := .cells #[.int .i64 a1_0, .int .i64 a1_1, .slice A1_2 l1_2.length c1_2, .string a1_3] 52 (0, 0)) (kx BK240.out) hg (Kd.R_ne HO_8.out BK240.out (by decide))); replace HB := am (hb); clear HO_8; clear ho hb hg hat))
           go_roundg k2
           case measure => have := HJ3.out; have := HK2.out; omega
           case rel => exact ⟨(x6_2.extract 60 x6_2.size), (y253), (by first | rfl | (simp; done) | (simp [*]; done)), H', ⟨by have := HJ3.out; have := HK2.out; omega⟩, ⟨rx HO255.out⟩, ⟨kx BK239.out⟩, ⟨kx BK240.out⟩, ⟨zb2 HB.out GE239.out GE240.out⟩⟩
          ·rw [if_neg c32] at H
           exact absurd H (by simp)
         ·rw [if_neg c31] at H
          exact absurd H (by simp)
        ·rw [if_neg c30] at H
         exact absurd H (by simp)
      ·rw [if_neg c22] at H
       have c22b0 : decide (0 < (x6_2.size : Int)) = false := decide_eq_false c22
       have c22b1 : decide (0 < x6_2.size) = false := decide_eq_false (by omega)
       clear c22
       replace H := Option.bind_eq_some_iff.mp H
       obtain ⟨t256, A350, H⟩ := H
       try dsimp only at H
       have A35 := Aside0.mk A350
       clear A350
       obtain ⟨y257, hy257⟩ : ∃ y_ : List (S67), y_ = (([(⟨2, (⟨#[115, 43]⟩ : ByteArray), (⟨#[]⟩ : ByteArray), (⟨#[]⟩ : ByteArray)⟩ : S67), (⟨3, (⟨#[115, 43]⟩ : ByteArray), (⟨#[]⟩ : ByteArray), t256⟩ : S67)] : List (S67))) := ⟨_, rfl⟩
       replace H : (if x8_2.length + y257.length < 2513169434916 then ((some (x8_2 ++ y257 : List (S67))).bind fun y260 => ((spec_l08Drops.f k2 l0_0 a1_0).bind fun t263 => (if y260.length + t263.length < 2513169434916 then (some ((y260 ++ t263), true)) else (none)))) else (none)) = some (r1, r2) := by first | (rw [hy257]; with_reducible exact H) | (have H2_ := (Option.bind_some _ _).symm.trans H; rw [hy257]; with_reducible exact H2_) | (have H2_ := (Option.bind_some _ _).symm.trans H; with_reducible exact H2_) | with_reducible exact H | (rw [hy257]; exact H) | exact H
       have Ny257 := Aside0.mk hy257
       clear hy257
       by_cases c36 : x8_2.length + y257.length < 2513169434916
       ·rw [if_pos c36] at H
        have LMc36 := Aside0.mk c36
        clear c36
        obtain ⟨y260, hy260⟩ : ∃ y_ : List (S67), y_ = (x8_2 ++ y257) := ⟨_, rfl⟩
        replace H : ((spec_l08Drops.f k2 l0_0 a1_0).bind fun t263 => (if y260.length + t263.length < 2513169434916 then (some ((y260 ++ t263), true)) else (none))) = some (r1, r2) := by first | (rw [hy260]; with_reducible exact H) | (have H2_ := (Option.bind_some _ _).symm.trans H; rw [hy260]; with_reducible exact H2_) | (have H2_ := (Option.bind_some _ _).symm.trans H; with_reducible exact H2_) | with_reducible exact H | (rw [hy260]; exact H) | exact H
        have Ny260 := Aside0.mk hy260
        clear hy260
        replace H := Option.bind_eq_some_iff.mp H
        obtain ⟨t263, A370, H⟩ := H
        try dsimp only at H
        have A37 := Aside0.mk A370
        clear A370
        by_cases c38 : y260.length + t263.length < 2513169434916
        ·rw [if_pos c38] at H
         have LMc38 := Aside0.mk c38
         clear c38
         obtain ⟨y266, hy266⟩ : ∃ y_ : List (S67), y_ = (y260 ++ t263) := ⟨_, rfl⟩
         replace H : (some (y266, true)) = some (r1, r2) := by first | (rw [hy266]; with_reducible exact H) | (have H2_ := (Option.bind_some _ _).symm.trans H; rw [hy266]; with_reducible exact H2_) | (have H2_ := (Option.bind_some _ _).symm.trans H; with_reducible exact H2_) | with_reducible exact H | (rw [hy266]; exact H) | exact H
         have Ny266 := Aside0.mk hy266
         clear hy266
         simp only [Option.some.injEq, Prod.mk.injEq] at H
         obtain ⟨rfl, rfl⟩ := H
         have hnb39 := NB240_239.out
         have hnc39 := NB239_240.out
         obtain ⟨hcz40_0, hcz40_1, hcz40_2, hcz40_3, hfz40_0, hfz40_1, hfz40_2, hfz40_3⟩ := zc4 BK240.out
         go_wp2_with (first | ((with_reducible refine gate_callee (f := 57) rfl ?_); refine goesL_ (some 48) rfl rfl Tryz.func57 (by kernel_rfl) rfl #[.int .i64 a1_0] rfl zr ?_; (with_reducible refine (spec_SnapName.calls k2 a1_0 t256 _ A35.out).mono ?_); rintro e w41 ⟨rfl, hb⟩; refine ⟨_, rfl, ?_⟩; replace HO_8 := am (Kd.R_below (rx HO_8.out) hb); replace BK239 := am (bb hb (kx BK239.out)); replace BK240 := am (bb hb (kx BK240.out)); replace HB := am (below_step (zb2 HB.out GE239.out GE240.out) hb); (try clear hb); (try clear hb2); (try clear hk); (try clear hi)) | ((with_reducible refine gate_dst (N := 50) rfl ?_); refine Kd.R_lit k67 _ 67 ?hg (N := 50) ?hd (xs := ([(⟨2, (⟨#[115, 43]⟩ : ByteArray), (⟨#[]⟩ : ByteArray), (⟨#[]⟩ : ByteArray)⟩ : S67), (⟨3, (⟨#[115, 43]⟩ : ByteArray), (⟨#[]⟩ : ByteArray), t256⟩ : S67)] : List (S67))) (inner := [.int .i64 2, .string (⟨#[115, 43]⟩ : ByteArray), .string (⟨#[]⟩ : ByteArray), .string (⟨#[]⟩ : ByteArray), .int .i64 3, .string (⟨#[115, 43]⟩ : ByteArray), .string (⟨#[]⟩ : ByteArray), .string t256]) (ok := fun _ => True) (okp := fun _ => True) ?hr ?hp (fun _ hk => hk) trivial (Below.refl _ _) (Nat.le_refl _) (by simp) ?_; (case hd => rfl); (case hg => rfl); (case hr => first | (go_simp; done) | (go_simp; rfl)); (case hp => exact (Reps.c4 (show Kd.M k67 _ _ _ (⟨2, (⟨#[115, 43]⟩ : ByteArray), (⟨#[]⟩ : ByteArray), (⟨#[]⟩ : ByteArray)⟩ : S67) [.int .i64 2, .string (⟨#[115, 43]⟩ : ByteArray), .string (⟨#[]⟩ : ByteArray), .string (⟨#[]⟩ : ByteArray)] from (k67_mkM _ _ _ (⟨2, (⟨#[115, 43]⟩ : ByteArray), (⟨#[]⟩ : ByteArray), (⟨#[]⟩ : ByteArray)⟩ : S67) )) (Reps.c4 (show Kd.M k67 _ _ _ (⟨3, (⟨#[115, 43]⟩ : ByteArray), (⟨#[]⟩ : ByteArray), t256⟩ : S67) [.int .i64 3, .string (⟨#[115, 43]⟩ : ByteArray), .string (⟨#[]⟩ : ByteArray), .string t256] from (k67_mkM _ _ _ (⟨3, (⟨#[115, 43]⟩ : ByteArray), (⟨#[]⟩ : ByteArray), t256⟩ : S67) )) (Reps.none _ _)))); intro v258 w42 ho43 hb hg_ hnew_; clear hg_ hnew_; (first | rw [← Ny257.out] at ho43 | (simp only [Int.reduceToNat] at ho43; rw [← Ny257.out] at ho43)); have HO259 := am (Kd.R_lower (Kd.R_new' ho43 (Kd.R_lt (rx HO_8.out))) (below_size (zb2 HB.out GE239.out GE240.out))); replace HO_8 := am (Kd.R_elder' (rx HO_8.out) (Kd.R_base ho43) hb); replace BK239 := am (bb hb (kx BK239.out)); replace BK240 := am (bb hb (kx BK240.out)); replace HB := am (below_step (zb2 HB.out GE239.out GE240.out) hb); clear hb ho43; obtain ⟨Ao45, co45, eo45⟩ := Kd.R_slice HO259.out; subst eo45) | ((with_reducible refine gate_builtin (b := .append) (xs := #[.tmp 44, .tmp 50]) rfl ?_); at_builtin; refine Kd.R_append_rows k67 (w0 := w) w.heap.size rfl (.tmp 44) (.tmp 50) 26 67 (.agg #[(.int .i64 0), (.string ⟨#[]⟩), (.string ⟨#[]⟩), (.string ⟨#[]⟩)]) 56 rfl Tryz.underlying26 info67 rfl (by decide) (by omega) u8 x8_2 y257 _ _ _ (fun k_ => some k_ ≠ (.slice Ao45 y257.length co45 : Value).ownBlock) (fun _ => False) rfl rfl ?aO ?aR (fun _ _ h => h) (fun _ h => h.elim) ?aF ?aB ?aS ?aL ?_; (case aR => repeat (first | exact (Kd.R_reads' HO259.out).2.2 | (with_reducible refine Kd.C_alloc ?_ _) | (with_reducible refine Kd.C_drewN ?_ _) | (with_reducible refine Kd.C_drew ?_))); (case aB => exact (zb2 HB.out GE239.out GE240.out)); (case aF => exact (fun k_ hk => Kd.fresh' (Kd.R_lt (rx HO259.out)) k_ hk)); (case aO => exact (rx (Kd.R_mono HO_8.out (fun _ hk => hk.2)))); (case aS => exact (below_size (zb2 HB.out GE239.out GE240.out))); (case aL => have := LMc36.out; omega); intro v261 w44 ho hb hg hat; rw [← Ny260.out] at ho; have HO262 := am (ho); replace BK239 := am (blk_grown (g := gb239) (o := .cells #[.slice A0_0 l0_0.length c0_0] 30 (0, 0)) (kx BK239.out) hg (Kd.R_ne HO_8.out BK239.out (by decide))); replace BK240 := am (blk_grown (g := gb240) (o := .cells #[.int .i64 a1_0, .int .i64 a1_1, .slice A1_2 l1_2.length c1_2, .string a1_3] 52 (0, 0)) (kx BK240.out) hg (Kd.R_ne HO_8.out BK240.out (by decide))); replace HO259 := am (Kd.R_after (ok := (fun _ => True)) (rx HO259.out) hg hat); replace HB := am (hb); clear HO_8; clear ho hb hg hat; obtain ⟨hcz46_0, hfz46_0⟩ := zc1 BK239.out; obtain ⟨hcz47_0, hcz47_1, hcz47_2, hcz47_3, hfz47_0, hfz47_1, hfz47_2, hfz47_3⟩ := zc4 BK240.out) | ((with_reducible refine gate_callee (f := 29) rfl ?_); refine goesL_ (some 56) rfl rfl Tryz.func29 (by kernel_rfl) rfl #[.agg #[.slice A0_0 l0_0.length c0_0], .int .i64 a1_0] rfl zr ?_; (with_reducible refine (spec_l08Drops.calls k2 _ _ l0_0 a1_0 t263 _ ?side1 ?side2 A37.out).mono ?_); (case side1 => repeat (first | exact (Kd.C_below HR0_0.out HB.out) | (with_reducible refine Kd.C_alloc ?_ _) | (with_reducible refine Kd.C_drewN ?_ _) | (with_reducible refine Kd.C_drew ?_))); (case side2 => exact HC0_0.out); rintro e w48 ⟨v264, rfl, ho0, hb⟩; refine ⟨_, rfl, ?_⟩; have HO265 := am (Kd.R_lower (Kd.R_new' (Kd.R_new' ho0 (Kd.R_lt (rx HO259.out))) (Kd.R_lt (rx HO262.out))) (below_size (zb2 HB.out GE239.out GE240.out))); replace HO259 := am (Kd.R_elder' (rx HO259.out) (Kd.R_base ho0) hb); replace HO262 := am (Kd.R_elder' (rx HO262.out) (Kd.R_base ho0) hb); replace BK239 := am (bb hb (kx BK239.out)); replace BK240 := am (bb hb (kx BK240.out)); replace HB := am (below_step (zb2 HB.out GE239.out GE240.out) hb); (try clear hb); (try clear hb2); (try clear hk); (try clear hi); (try clear ho0); obtain ⟨Ao50, co50, eo50⟩ := Kd.R_slice HO265.out; subst eo50) | ((with_reducible refine gate_builtin (b := .append) (xs := #[.tmp 52, .tmp 56]) rfl ?_); at_builtin; refine Kd.R_append_rows k67 (w0 := w) w.heap.size rfl (.tmp 52) (.tmp 56) 26 67 (.agg #[(.int .i64 0), (.string ⟨#[]⟩), (.string ⟨#[]⟩), (.string ⟨#[]⟩)]) 56 rfl Tryz.underlying26 info67 rfl (by decide) (by omega) v261 y260 t263 _ _ _ (fun k_ => some k_ ≠ (.slice Ao45 y257.length co45 : Value).ownBlock ∧ some k_ ≠ (.slice Ao50 t263.length co50 : Value).ownBlock) (fun _ => False) rfl rfl ?aO ?aR (fun _ _ h => h) (fun _ h => h.elim) ?aF ?aB ?aS ?aL ?_; (case aR => repeat (first | exact (Kd.R_reads' HO265.out).2.2 | (with_reducible refine Kd.C_alloc ?_ _) | (with_reducible refine Kd.C_drewN ?_ _) | (with_reducible refine Kd.C_drew ?_))); (case aB => exact (zb2 HB.out GE239.out GE240.out)); (case aF => exact (fun k_ hk => ⟨Kd.fresh' (Kd.R_lt (rx HO259.out)) k_ hk, Kd.fresh' (Kd.R_lt (rx HO265.out)) k_ hk⟩)); (case aO => exact (rx HO262.out)); (case aS => exact (below_size (zb2 HB.out GE239.out GE240.out))); (case aL => have := LMc38.out; omega); intro v267 w49 ho hb hg hat; rw [← Ny266.out] at ho; have HO268 := am (ho); replace BK239 := am (blk_grown (g := gb239) (o := .cells #[.slice A0_0 l0_0.length c0_0] 30 (0, 0)) (kx BK239.out) hg (Kd.R_ne HO262.out BK239.out (by decide))); replace BK240 := am (blk_grown (g := gb240) (o := .cells #[.int .i64 a1_0, .int .i64 a1_1, .slice A1_2 l1_2.length c1_2, .string a1_3] 52 (0, 0)) (kx BK240.out) hg (Kd.R_ne HO262.out BK240.out (by decide))); replace HO259 := am (Kd.R_after (ok := (fun k_ => some k_ ≠ (.slice Ao50 t263.length co50 : Value).ownBlock)) (rx (Kd.R_mono HO259.out (fun _ hk => ⟨hk.2, hk.1.2⟩))) hg hat); replace HO265 := am (Kd.R_after (ok := (fun k_ => some k_ ≠ (.slice Ao45 y257.length co45 : Value).ownBlock)) (rx (Kd.R_mono HO265.out (fun _ hk => ⟨hk.1.2, hk.2⟩))) hg hat); replace HB := am (hb); clear HO262; clear ho hb hg hat))
         go_ret2
         exact ⟨_, by first | rfl | (simp [errW_none, errW_some] <;> rfl) | (simp [*, errW_none, errW_some] <;> rfl), rx (Kd.R_mono HO268.out (fun _ hk => trivial)), zb2 HB.out GE239.out GE240.out⟩
        ·rw [if_neg c38] at H
         exact absurd H (by simp)
       ·rw [if_neg c36] at H
        exact absurd H (by simp)

/-! ### laws_toIntS: function 58 -/
def laws_toIntS.l0 : Nat → List Int → List Int → Int → Option (List Int)
 | 0, _, _, _ => none
 | k + 1, x0, x3, x4 => if x4 < (x0.length : Int) then (if 0 ≤ x4 then (if x4 < (x3.length : Int) then (laws_toIntS.l0 k x0 (x3.set (x4 : Int).toNat (rd x0 x4)) (wrap64 (x4 + 1))) else (none)) else (none)) else (some x3)
def laws_toIntS.f (k : Nat) (l0 : List Int) : Option (List Int) := if 0 ≤ (l0.length : Int) then (if ((l0.length : Int) : Int).toNat ≤ 35184372088832 then (laws_toIntS.l0 k l0 (List.replicate ((l0.length : Int) : Int).toNat 0) 0) else (none)) else (none)
theorem laws_toIntS.mono_l : ∀ k, (∀ y0 y1 y2, LeO (laws_toIntS.l0 k y0 y1 y2) (laws_toIntS.l0 (k + 1) y0 y1 y2))
 | 0 => fun _ _ _ r h => by simp [laws_toIntS.l0] at h
 | k + 1 => by
  have ih0 := laws_toIntS.mono_l k
  ·intro y0 y1 y2
   unfold laws_toIntS.l0
   repeat' first
   | (with_reducible exact ih0 _ _ _)
   | (with_reducible exact LeO.refl _)
   | (with_reducible exact LeO.none _)
   | (with_reducible refine LeO.ite ?_ ?_)
   | (with_reducible refine LeO.bind ?_ (fun _ => ?_))
   | exact ih0 _ _ _
   | exact LeO.none _
   | refine LeO.ite ?_ ?_
   | refine LeO.bind ?_ (fun _ => ?_)
theorem laws_toIntS.mono : ∀ a0 k, LeO (laws_toIntS.f k a0) (laws_toIntS.f (k + 1) a0) := by
 intro a0 k
 have ih0 := laws_toIntS.mono_l k
 unfold laws_toIntS.f
 repeat' first
   | (with_reducible exact ih0 _ _ _)
   | (with_reducible exact LeO.refl _)
   | (with_reducible exact LeO.none _)
   | (with_reducible refine LeO.ite ?_ ?_)
   | (with_reducible refine LeO.bind ?_ (fun _ => ?_))
   | exact ih0 _ _ _
   | exact LeO.none _
   | refine LeO.ite ?_ ?_
   | refine LeO.bind ?_ (fun _ => ?_)
set_option maxHeartbeats 8000000 in
set_option maxRecDepth 100000 in
theorem laws_toIntS.calls (k : Nat) (A0 : Option Addr) (c0 : Nat) (l0 : List Int) (r : List Int) (w : World) (hr0 : Kd.C (Kd.int .i64) w A0 l0.length l0) (hc0 : l0.length ≤ c0) (h : laws_toIntS.f k l0 = some r) :
  Calls Tryz.prog 58 #[.slice A0 l0.length c0] w fun e w' => ∃ v0_ : Value, e = .returned (v0_) ∧ Kd.R (Kd.int .i64) 3 w' w.heap.size (fun _ => True) v0_ r ∧ Below w.heap.size w w' := by
 have HR0 := Aside0.mk hr0
 have HC0 := Aside0.mk hc0
 clear hr0 hc0
 have HB := Aside0.mk (Below.refl w.heap.size w)
 have H : (if 0 ≤ (l0.length : Int) then (if ((l0.length : Int) : Int).toNat ≤ 35184372088832 then (laws_toIntS.l0 k l0 (List.replicate ((l0.length : Int) : Int).toNat 0) 0) else (none)) else (none)) = some r := h
 clear h
 by_cases c2 : 0 ≤ (l0.length : Int)
 ·rw [if_pos c2] at H
  have c2b0 := eq_true c2
  have c2b1 : decide (0 ≤ (l0.length : Int)) = true := decide_eq_true c2
  clear c2
  by_cases c3 : ((l0.length : Int) : Int).toNat ≤ 35184372088832
  ·rw [if_pos c3] at H
   have c3b0 := eq_true c3
   have c3b1 : decide (((l0.length : Int) : Int).toNat ≤ 35184372088832) = true := decide_eq_true c3
   clear c3
   obtain ⟨y269, hy269⟩ : ∃ y_ : List Int, y_ = (List.replicate ((l0.length : Int) : Int).toNat 0) := ⟨_, rfl⟩
   replace H : (laws_toIntS.l0 k l0 y269 0) = some r := by first | (rw [hy269]; with_reducible exact H) | (have H2_ := (Option.bind_some _ _).symm.trans H; rw [hy269]; with_reducible exact H2_) | (have H2_ := (Option.bind_some _ _).symm.trans H; with_reducible exact H2_) | with_reducible exact H | (rw [hy269]; exact H) | exact H
   have Ny269 := Aside0.mk hy269
   clear hy269
   have H' := Aside0.mk H
   clear H
   go_enter Tryz.func58, Tryz.ntmps58
   go_wp2_with (first | ((with_reducible refine gate_dst (N := 7) rfl ?_); refine Kd.R_make (Kd.int .i64) _ 3 rfl (N := 7) rfl 46 _ _ rfl (l0.length : Int) rfl rfl Tryz.underlying46 (.int .i64 0) 8 info3 rfl (by decide) (by omega) 0 (ok := fun _ => True) (okp := fun _ => True) rfl (fun _ hk => hk) trivial (of_decide_eq_true (by first | (with_reducible assumption) | assumption)) (Nat.le_trans (Nat.mul_le_mul_right _ (of_decide_eq_true (by first | (with_reducible assumption) | assumption) : (l0.length : Int).toNat ≤ 35184372088832)) (by omega)) (Below.refl _ _) (Nat.le_refl _) ?_; intro v270 w4 ho5 hb hg_ hnew_; clear hg_ hnew_; (first | rw [← Ny269.out] at ho5 | (simp only [Int.reduceToNat] at ho5; rw [← Ny269.out] at ho5)); have HO271 := am (Kd.R_lower ho5 (below_size (zb0 HB.out))); replace HB := am (below_step (zb0 HB.out) hb); clear hb ho5))
   go_loopg [4] k (fun kq v4 w' => ∃ (x3_1 : List Int) (x4_1 : Int), v4 = .int .i64 x4_1 ∧ Aside0 (laws_toIntS.l0 kq l0 x3_1 x4_1 = some r) ∧ Aside0 (kq ≤ k) ∧ Aside0 (Kd.R (Kd.int .i64) 3 w' w.heap.size (fun _ => True) v270 x3_1) ∧ Aside0 (Below w.heap.size w w'))
   case atStart => exact ⟨(y269), (0), (by first | rfl | (simp; done) | (simp [*]; done)), H', ⟨Nat.le_refl _⟩, ⟨rx HO271.out⟩, ⟨zb0 HB.out⟩⟩
   case round =>
    clear H'
    try clear c2
    try clear c2b0
    try clear c2b1
    try clear p2
    try clear c3
    try clear c3b0
    try clear c3b1
    try clear c5
    obtain ⟨x3_1, x4_1, rfl, HA, HK1, HO_3, HB⟩ := hrel
    cases gk with
    | zero => exact absurd HA.out (by simp [laws_toIntS.l0])
    | succ k1 =>
     have H := HA.out
     clear HA
     simp only [laws_toIntS.l0] at H
     by_cases c6 : x4_1 < (l0.length : Int)
     ·rw [if_pos c6] at H
      have c6b0 : decide (x4_1 < (l0.length : Int)) = true := decide_eq_true c6
      have c6b1 : decide ((l0.length : Int) ≤ x4_1) = false := decide_eq_false (by omega)
      clear c6
      by_cases c7 : 0 ≤ x4_1
      ·rw [if_pos c7] at H
       have c7b0 : decide (0 ≤ x4_1) = true := decide_eq_true c7
       clear c7
       by_cases c8 : x4_1 < (x3_1.length : Int)
       ·rw [if_pos c8] at H
        have c8b0 : decide (x4_1 < (x3_1.length : Int)) = true := decide_eq_true c8
        have c8b1 : decide ((x3_1.length : Int) ≤ x4_1) = false := decide_eq_false (by omega)
        clear c8
        obtain ⟨y273, hy273⟩ : ∃ y_ : List Int, y_ = (x3_1.set (x4_1 : Int).toNat (rd l0 x4_1)) := ⟨_, rfl⟩
        replace H : (laws_toIntS.l0 k1 l0 y273 (wrap64 (x4_1 + 1))) = some r := by first | (rw [hy273]; with_reducible exact H) | (have H2_ := (Option.bind_some _ _).symm.trans H; rw [hy273]; with_reducible exact H2_) | (have H2_ := (Option.bind_some _ _).symm.trans H; with_reducible exact H2_) | with_reducible exact H | (rw [hy273]; exact H) | exact H
        have Ny273 := Aside0.mk hy273
        clear hy273
        have H' := Aside0.mk H
        clear H
        have p272 : 0 ≤ (x4_1 : Int) := of_decide_eq_true (by first | (with_reducible assumption) | assumption)
        have q272 : x4_1 < (l0.length : Int) := of_decide_eq_true (by first | (with_reducible assumption) | assumption)
        obtain ⟨ad272, e272, hx272_0⟩ := Kd.at_int HR0.out x4_1 p272 q272
        cases e272
        replace hx272_0 := (HB.out.cell (World.block_lt_of_cell? w _ hx272_0)).trans hx272_0
        replace p272 := eq_true p272
        replace q272 := eq_true q272
        have p9 : 0 ≤ (x4_1 : Int) := of_decide_eq_true (by first | (with_reducible assumption) | assumption)
        have q9 : (x4_1 : Int) < ((x3_1.length : Int) : Int) := of_decide_eq_true (by first | (with_reducible assumption) | assumption)
        obtain ⟨go9, co9, eo9, gb9, gl9, cl9, HG9⟩ := Kd.R_form HO_3.out (by omega)
        (first | cases eo9 | (injection eo9 with ea_ en_ ec_; (first | subst ea_ | (injection ea_ with ea_; subst ea_)); subst ec_; clear en_))
        have GB9 := Aside0.mk gb9
        have GG9 := Aside0.mk HG9
        clear gb9 gl9 HG9
        obtain ⟨hx9_0, hf9_0⟩ := Kd.R_celln 0 HO_3.out (x4_1 : Int) p9 q9
        replace p9 := eq_true p9
        replace q9 := eq_true q9
        have HP10 := Kd.R_putg HO_3.out (x4_1 : Int) (rd l0 x4_1)
        go_wp2_with (first | ((with_reducible refine gate_store (t := 3) (p := 20) rfl ?_); refine store_event (t := 3) (p := 20) (v := ?vo_w11) (w1 := (wr.setCell ⟨go9, (x4_1 : Int).toNat, none⟩ (.int .i64 (rd l0 x4_1)))) ?hg ?ho ?hn ?hr ?_; (case ho => rfl); (case hg => rfl); (case hn => rfl); (case hr => first | (go_simp; done) | (go_simp; rfl)); intro w11 hw; have hg : wr.grownBy w11 (some go9) := (by rw [hw]; exact HP10.2); have hp_ : Kd.R (Kd.int .i64) 3 w11 w.heap.size (fun _ => True) (.slice (some ⟨go9, 0, none⟩) x3_1.length co9) y273 := (by rw [hw, Ny273.out]; exact HP10.1); clear HP10; replace HO_3 := am (hp_); replace HB := am ((by rw [hw]; exact below_set (HB.out) GB9.out : Below w.heap.size w w11)); clear hg hw hp_))
        go_roundg k1
        case measure => have := HK1.out; omega
        case rel => exact ⟨(y273), (wrap64 (x4_1 + 1)), (by first | rfl | (simp; done) | (simp [*]; done)), H', ⟨by have := HK1.out; omega⟩, ⟨rx HO_3.out⟩, ⟨zb0 HB.out⟩⟩
       ·rw [if_neg c8] at H
        exact absurd H (by simp)
      ·rw [if_neg c7] at H
       exact absurd H (by simp)
     ·rw [if_neg c6] at H
      have c6b0 : decide (x4_1 < (l0.length : Int)) = false := decide_eq_false c6
      have c6b1 : decide ((l0.length : Int) ≤ x4_1) = true := decide_eq_true (by omega)
      clear c6
      obtain rfl := Option.some.inj H
      go_wp2
      go_ret
      exact ⟨_, by first | rfl | (simp [errW_none, errW_some] <;> rfl) | (simp [*, errW_none, errW_some] <;> rfl), rx HO_3.out, zb0 HB.out⟩
  ·rw [if_neg c3] at H
   exact absurd H (by simp)
 ·rw [if_neg c2] at H
  exact absurd H (by simp)

/-! ### laws_toSnap: function 22 -/
def laws_toSnap.f (k : Nat) (a0_0 : Int) (a0_1 : Int) (l0_2 : List Int) (a0_3 : ByteArray) : Option (Int × Int × List Int × ByteArray) := (laws_toIntS.f k l0_2).bind fun t277 => (some (a0_0, a0_1, t277, a0_3))
theorem laws_toSnap.mono : ∀ a0 a1 a2 a3 k, LeO (laws_toSnap.f k a0 a1 a2 a3) (laws_toSnap.f (k + 1) a0 a1 a2 a3) := by
 intro a0 a1 a2 a3 k
 unfold laws_toSnap.f
 repeat' first
   | (with_reducible exact laws_toIntS.mono _ _)
   | (with_reducible exact LeO.refl _)
   | (with_reducible exact LeO.none _)
   | (with_reducible refine LeO.ite ?_ ?_)
   | (with_reducible refine LeO.bind ?_ (fun _ => ?_))
   | exact laws_toIntS.mono _ _
   | exact LeO.none _
   | refine LeO.ite ?_ ?_
   | refine LeO.bind ?_ (fun _ => ?_)
set_option maxHeartbeats 8000000 in
set_option maxRecDepth 100000 in
theorem laws_toSnap.calls (k : Nat) (a0_0 : Int) (a0_1 : Int) (A0_2 : Option Addr) (c0_2 : Nat) (l0_2 : List Int) (a0_3 : ByteArray) (r1 : Int) (r2 : Int) (r3 : List Int) (r4 : ByteArray) (w : World) (hr0_2 : Kd.C (Kd.int .i64) w A0_2 l0_2.length l0_2) (hc0_2 : l0_2.length ≤ c0_2) (h : laws_toSnap.f k a0_0 a0_1 l0_2 a0_3 = some (r1, r2, r3, r4)) :
  Calls Tryz.prog 22 #[.agg #[.int .i64 a0_0, .int .i64 a0_1, .slice A0_2 l0_2.length c0_2, .string a0_3]] w fun e w' => ∃ v2_ : Value, e = .returned (.agg #[.int .i64 r1, .int .i64 r2, v2_, .string r4]) ∧ Kd.R (Kd.int .i64) 3 w' w.heap.size (fun _ => True) v2_ r3 ∧ Below w.heap.size w w' := by
 have hu48 := Tryz.underlying48
 have hu52 := Tryz.underlying52
 have HR0_2 := Aside0.mk hr0_2
 have HC0_2 := Aside0.mk hc0_2
 clear hr0_2 hc0_2
 have HB := Aside0.mk (Below.refl w.heap.size w)
 have H : ((laws_toIntS.f k l0_2).bind fun t277 => (some (a0_0, a0_1, t277, a0_3))) = some (r1, r2, r3, r4) := h
 clear h
 replace H := Option.bind_eq_some_iff.mp H
 obtain ⟨t277, A20, H⟩ := H
 try dsimp only at H
 have A2 := Aside0.mk A20
 clear A20
 simp only [Option.some.injEq, Prod.mk.injEq] at H
 obtain ⟨rfl, rfl, rfl, rfl⟩ := H
 go_enter Tryz.func22, Tryz.ntmps22
 go_wp2_with (first | ((with_reducible refine gate_dst (N := 1) rfl ?_); refine box_event ?hg (N := 1) ?hd (cs := #[.int .i64 a0_0, .int .i64 a0_1, .slice A0_2 l0_2.length c0_2, .string a0_3]) (t := 48) ?hr ?_; (case hd => rfl); (case hg => rfl); (case hr => first | (go_simp; done) | (go_simp; rfl)); intro gb274 hg w3 hbox hb; have BK274 := am (hbox); have GW274 := zge hg (zb0 HB.out); have GE274 := zge hg (zb0 HB.out); replace HB := am (below_step (zb0 HB.out) hb); clear hb hbox hg) | ((with_reducible refine gate_dst (N := 2) rfl ?_); refine box_event ?hg (N := 2) ?hd (cs := #[.int .i64 0, .int .i64 0, .slice none 0 0, .string (⟨#[]⟩ : ByteArray)]) (t := 52) ?hr ?_; (case hd => rfl); (case hg => rfl); (case hr => first | (go_simp; done) | (go_simp; rfl)); intro gb275 hg w4 hbox hb; have BK275 := am (hbox); have GW275 := zge hg (zb1 HB.out GE274.out); have GE275 := zge hg (zb1 HB.out GE274.out); have NB274_275 := znl hg (kx BK274.out); have NB275_274 := zng hg (kx BK274.out); replace BK274 := am (bb hb (kx BK274.out)); replace HB := am (below_step (zb1 HB.out GE274.out) hb); clear hb hbox hg) | ((with_reducible refine gate_dst (N := 3) rfl ?_); refine box_event ?hg (N := 3) ?hd (cs := #[.int .i64 0, .int .i64 0, .slice none 0 0, .string (⟨#[]⟩ : ByteArray)]) (t := 52) ?hr ?_; (case hd => rfl); (case hg => rfl); (case hr => first | (go_simp; done) | (go_simp; rfl)); intro gb276 hg w5 hbox hb; have BK276 := am (hbox); have GW276 := zge hg (zb2 HB.out GE274.out GE275.out); have GE276 := zge hg (zb2 HB.out GE274.out GE275.out); have NB274_276 := znl hg (kx BK274.out); have NB276_274 := zng hg (kx BK274.out); have NB275_276 := znl hg (kx BK275.out); have NB276_275 := zng hg (kx BK275.out); replace BK274 := am (bb hb (kx BK274.out)); replace BK275 := am (bb hb (kx BK275.out)); replace HB := am (below_step (zb2 HB.out GE274.out GE275.out) hb); clear hb hbox hg; have hnb6 := NB274_275.out; have hnc6 := NB275_274.out; have hnb7 := NB274_276.out; have hnc7 := NB276_274.out; obtain ⟨hcz8_0, hcz8_1, hcz8_2, hcz8_3, hfz8_0, hfz8_1, hfz8_2, hfz8_3⟩ := zc4 BK274.out; have hnb9 := NB276_275.out; have hnc9 := NB275_276.out; obtain ⟨hcz10_0, hcz10_1, hcz10_2, hcz10_3, hfz10_0, hfz10_1, hfz10_2, hfz10_3⟩ := zc4 BK276.out) | ((with_reducible refine gate_callee (f := 58) rfl ?_); refine goesL_ (some 12) rfl rfl Tryz.func58 (by kernel_rfl) rfl #[.slice A0_2 l0_2.length c0_2] rfl zr ?_; (with_reducible refine (laws_toIntS.calls k _ _ l0_2 t277 _ ?side1 ?side2 A2.out).mono ?_); (case side1 => exact Kd.C_below HR0_2.out (zb3 HB.out GE274.out GE275.out GE276.out)); (case side2 => exact HC0_2.out); rintro e w11 ⟨v278, rfl, ho0, hb⟩; refine ⟨_, rfl, ?_⟩; have HO279 := am (Kd.R_lower ho0 (below_size (zb3 HB.out GE274.out GE275.out GE276.out))); replace BK274 := am (bb hb (zf1 BK274.out NB274_276.out)); replace BK275 := am (bb hb (zf1 BK275.out NB275_276.out)); replace BK276 := am (blk_below (g := gb276) (o := .cells #[.int .i64 a0_0, .int .i64 a0_1, .slice none 0 0, .string (⟨#[]⟩ : ByteArray)] 52 (0, 0)) (by (with_reducible repeat (first | refine blk_drewN ?_ _ | refine blk_drew ?_ | refine blk_alloc ?_ _)); refine blk_put (cs := #[.int .i64 a0_0, .int .i64 0, .slice none 0 0, .string (⟨#[]⟩ : ByteArray)]) ?_ 1 _ rfl; (with_reducible repeat (first | refine blk_drewN ?_ _ | refine blk_drew ?_ | refine blk_alloc ?_ _)); refine blk_put (cs := #[.int .i64 0, .int .i64 0, .slice none 0 0, .string (⟨#[]⟩ : ByteArray)]) ?_ 0 _ rfl; (with_reducible repeat (first | refine blk_drewN ?_ _ | refine blk_drew ?_ | refine blk_alloc ?_ _)); exact BK276.out) hb); replace HB := am (below_step (zb3 HB.out GE274.out GE275.out GE276.out) hb); (try clear hb); (try clear hb2); (try clear hk); (try clear hi); (try clear ho0); obtain ⟨Ao12, co12, eo12⟩ := Kd.R_slice HO279.out; subst eo12; obtain ⟨hcz13_0, hcz13_1, hcz13_2, hcz13_3, hfz13_0, hfz13_1, hfz13_2, hfz13_3⟩ := zc4 BK276.out; obtain ⟨hcz14_0, hcz14_1, hcz14_2, hcz14_3, hfz14_0, hfz14_1, hfz14_2, hfz14_3⟩ := zc4 BK274.out; obtain ⟨hcz15_0, hcz15_1, hcz15_2, hcz15_3, hfz15_0, hfz15_1, hfz15_2, hfz15_3⟩ := zc4 BK275.out))
 refine bodyPost_ret (results_cell_row rfl _ _ gb275 52 #[.int .i64 a0_0, .int .i64 a0_1, .slice Ao12 t277.length co12, .string a0_3] (0, 0) _ rfl (by (with_reducible repeat (first | refine blk_drewN ?_ _ | refine blk_drew ?_ | refine blk_alloc ?_ _)); refine blk_put (cs := #[.int .i64 a0_0, .int .i64 a0_1, .slice Ao12 t277.length co12, .string (⟨#[]⟩ : ByteArray)]) ?_ 3 _ rfl; (with_reducible repeat (first | refine blk_drewN ?_ _ | refine blk_drew ?_ | refine blk_alloc ?_ _)); refine blk_put (cs := #[.int .i64 a0_0, .int .i64 a0_1, .slice none 0 0, .string (⟨#[]⟩ : ByteArray)]) ?_ 2 _ rfl; (with_reducible repeat (first | refine blk_drewN ?_ _ | refine blk_drew ?_ | refine blk_alloc ?_ _)); refine blk_put (cs := #[.int .i64 a0_0, .int .i64 0, .slice none 0 0, .string (⟨#[]⟩ : ByteArray)]) ?_ 1 _ rfl; (with_reducible repeat (first | refine blk_drewN ?_ _ | refine blk_drew ?_ | refine blk_alloc ?_ _)); refine blk_put (cs := #[.int .i64 0, .int .i64 0, .slice none 0 0, .string (⟨#[]⟩ : ByteArray)]) ?_ 0 _ rfl; (with_reducible repeat (first | refine blk_drewN ?_ _ | refine blk_drew ?_ | refine blk_alloc ?_ _)); refine blk_far ?_ NB275_276.out _; (with_reducible repeat (first | refine blk_drewN ?_ _ | refine blk_drew ?_ | refine blk_alloc ?_ _)); refine blk_far ?_ NB275_276.out _; (with_reducible repeat (first | refine blk_drewN ?_ _ | refine blk_drew ?_ | refine blk_alloc ?_ _)); exact BK275.out) Tryz.underlying52 rfl (by kernel_rfl)) rfl ?_
 exact ⟨_, by first | rfl | (simp [errW_none, errW_some] <;> rfl) | (simp [*, errW_none, errW_some] <;> rfl), rx (Kd.R_mono (Kd.R_far (p := ⟨gb275, 3, none⟩) (Kd.R_far (p := ⟨gb275, 2, none⟩) (Kd.R_far (p := ⟨gb275, 1, none⟩) (Kd.R_far (p := ⟨gb275, 0, none⟩) (Kd.R_far (p := ⟨gb276, 3, none⟩) (Kd.R_far (p := ⟨gb276, 2, none⟩) (Kd.R_types (Kd.R_types HO279.out BK276.out (by decide)) BK275.out (by decide)) (fun _ hk => hk.1.2) (.slice Ao12 t277.length co12)) (fun _ hk => hk.1.2) (.string a0_3)) (fun _ hk => hk.2) (.int .i64 a0_0)) (fun _ hk => hk.2) (.int .i64 a0_1)) (fun _ hk => hk.2) (.slice Ao12 t277.length co12)) (fun _ hk => hk.2) (.string a0_3)) (fun _ hk => trivial)), zb3 HB.out GE274.out GE275.out GE276.out⟩

/-! ### impl_Decimal: function 69, by hand (over strconv.Itoa's contract) -/ -- making laid
open Go.Proofs.YtogifkjkbfdocaaGreatDoor.Numerals Go.Proofs.YtogifkjkbfdocaaGreatDoor.Laid
def impl_Decimal.f (a0 : Int) : Option (ByteArray) := if -9223372036854775808 ≤ a0 then (if a0 ≤ 9223372036854775807 then some ⟨(Lib.itoa a0).toArray⟩ else none) else none
theorem impl_Decimal.calls (a0 : Int) (r : ByteArray) (w : World) (h : impl_Decimal.f a0 = some r) (hLW : LaidW w) :
  Calls Tryz.prog 69 #[.int .i64 a0] w fun e w' => e = .returned (.string r) ∧ Below w.heap.size w w' := by
 unfold impl_Decimal.f at h
 by_cases c : -9223372036854775808 ≤ a0
 ·rw [if_pos c] at h
  by_cases d : a0 ≤ 9223372036854775807
  ·rw [if_pos d] at h
   obtain rfl := Option.some.inj h
   exact Laid.impl_Decimal a0 c d w hLW
  ·rw [if_neg d] at h
   cases h
 ·rw [if_neg c] at h
  cases h

end Go.Proofs.YtogifkjkbfdocaaGreatDoor.QFnExactSnapActs
