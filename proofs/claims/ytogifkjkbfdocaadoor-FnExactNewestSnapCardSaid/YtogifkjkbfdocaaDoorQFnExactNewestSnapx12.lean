/- Written by the kit's print.py, called by our own print2.sh with one import more; not by print.sh. -/
import Derived.Test.YtogifkjkbfdocaaDoorQFnExactNewestSnapx0
import Derived.Test.YtogifkjkbfdocaaDoorQFnExactNewestSnapx7
import Derived.Test.YtogifkjkbfdocaaDoorQFnExactNewestSnapx10
import Derived.Test.YtogifkjkbfdocaaDoorQFnExactNewestSnapx11
namespace Go.Proofs.YtogifkjkbfdocaaDoor.QFnExactNewestSnap
open Go.RowKit Go.Proofs.YtogifkjkbfdocaaDoorW.PrintWords Go.Proofs.YtogifkjkbfdocaaDoorW.PrintLast Go.Proofs.YtogifkjkbfdocaaDoorW.PrintMore
attribute [local go_sem] max2_int min2_int max_two min_two max_three min_three max_four min_four   -- for this text's walks alone
open Go.Proofs.YtogifkjkbfdocaaDoor.Laid
open Go.Proofs.YtogifkjkbfdocaaDoor.Short
set_option linter.unusedVariables false
set_option linter.unusedSimpArgs false

/-! ### impl_ConfOk: function 105 -/
def impl_ConfOk.f (k : Nat) (l0 : List Int) : Option (Bool) := if (l0.length : Int) > 0 then ((impl_nodesOk.f k l0).bind fun t285 => (some t285)) else (some false)
theorem impl_ConfOk.mono : ∀ a0 k, LeO (impl_ConfOk.f k a0) (impl_ConfOk.f (k + 1) a0) := by
 intro a0 k
 unfold impl_ConfOk.f
 repeat' first
   | (with_reducible exact impl_nodesOk.mono _ _)
   | (with_reducible exact LeO.refl _)
   | (with_reducible exact LeO.none _)
   | (with_reducible refine LeO.ite ?_ ?_)
   | (with_reducible refine LeO.bind ?_ (fun _ => ?_))
   | exact impl_nodesOk.mono _ _
   | exact LeO.none _
   | refine LeO.ite ?_ ?_
   | refine LeO.bind ?_ (fun _ => ?_)
set_option maxHeartbeats 8000000 in
set_option maxRecDepth 100000 in
theorem impl_ConfOk.calls (k : Nat) (A0 : Option Addr) (c0 : Nat) (l0 : List Int) (r : Bool) (w : World) (hr0 : Kd.C (Kd.int .i64) w A0 l0.length l0) (hc0 : l0.length ≤ c0) (h : impl_ConfOk.f k l0 = some r) :
  Calls Tryd.prog 105 #[.slice A0 l0.length c0] w fun e w' => e = .returned (.bool r) ∧ Drawn0 w w' := by
 have HR0 := Aside0.mk hr0
 have HC0 := Aside0.mk hc0
 clear hr0 hc0
 have H : (if (l0.length : Int) > 0 then ((impl_nodesOk.f k l0).bind fun t285 => (some t285)) else (some false)) = some r := h
 clear h
 by_cases c2 : (l0.length : Int) > 0
 ·rw [if_pos c2] at H
  have c2b0 : decide (0 < (l0.length : Int)) = true := decide_eq_true c2
  have c2b1 : decide (0 < l0.length) = true := decide_eq_true (by omega)
  clear c2
  replace H := Option.bind_eq_some_iff.mp H
  obtain ⟨t285, A30, H⟩ := H
  try dsimp only at H
  have A3 := Aside0.mk A30
  clear A30
  obtain rfl := Option.some.inj H
  go_enter Tryd.func105, Tryd.ntmps105
  go_wp2_with (first | (go_at_call 121; (with_reducible refine (impl_nodesOk.calls k _ _ l0 t285 _ ?side1 ?side2 A3.out).mono ?_); (case side1 => repeat (first | exact HR0.out | (with_reducible refine Kd.C_alloc ?_ _) | (with_reducible refine Kd.C_drewN ?_ _) | (with_reducible refine Kd.C_drew ?_))); (case side2 => exact HC0.out); rintro e w' ⟨rfl, ⟨nd, rfl⟩⟩))
  go_ret
  exact ⟨by first | rfl | (simp; done) | (simp [*]; done), by repeat (first | exact Drawn0.refl _ | apply Drawn0.step)⟩
 ·rw [if_neg c2] at H
  have c2b0 : decide (0 < (l0.length : Int)) = false := decide_eq_false c2
  have c2b1 : decide (0 < l0.length) = false := decide_eq_false (by omega)
  clear c2
  obtain rfl := Option.some.inj H
  go_enter Tryd.func105, Tryd.ntmps105
  go_wp2
  go_ret
  exact ⟨by first | rfl | (simp; done) | (simp [*]; done), by repeat (first | exact Drawn0.refl _ | apply Drawn0.step)⟩

/-! ### impl_ReadConf: function 80 -/
def impl_ReadConf.l0 : Nat → ByteArray → List Int → Int → Option (List Int × Bool)
 | 0, _, _, _ => none
 | k + 1, x0, x4, x5 => if x5 < (x0.size : Int) then (if 0 ≤ x5 then (if x4.length < 17592186044416 then (impl_ReadConf.l0 k x0 (x4 ++ [wrap64 (bt x0 x5)]) (wrap64 (x5 + 1))) else (none)) else (none)) else ((impl_ConfOk.f k x4).bind fun t292 => (if t292 = true then (some (x4, true)) else (some (([] : List Int), false))))
def impl_ReadConf.f (k : Nat) (a0 : ByteArray) : Option (List Int × Bool) := impl_ReadConf.l0 k a0 (([] : List Int)) 0
theorem impl_ReadConf.mono_l : ∀ k, (∀ y0 y1 y2, LeO (impl_ReadConf.l0 k y0 y1 y2) (impl_ReadConf.l0 (k + 1) y0 y1 y2))
 | 0 => fun _ _ _ r h => by simp [impl_ReadConf.l0] at h
 | k + 1 => by
  have ih0 := impl_ReadConf.mono_l k
  ·intro y0 y1 y2
   unfold impl_ReadConf.l0
   repeat' first
   | (with_reducible exact ih0 _ _ _)
   | (with_reducible exact impl_ConfOk.mono _ _)
   | (with_reducible exact LeO.refl _)
   | (with_reducible exact LeO.none _)
   | (with_reducible refine LeO.ite ?_ ?_)
   | (with_reducible refine LeO.bind ?_ (fun _ => ?_))
   | exact ih0 _ _ _
   | exact impl_ConfOk.mono _ _
   | exact LeO.none _
   | refine LeO.ite ?_ ?_
   | refine LeO.bind ?_ (fun _ => ?_)
theorem impl_ReadConf.mono : ∀ a0 k, LeO (impl_ReadConf.f k a0) (impl_ReadConf.f (k + 1) a0) := by
 intro a0 k
 have ih0 := impl_ReadConf.mono_l k
 unfold impl_ReadConf.f
 repeat' first
   | (with_reducible exact ih0 _ _ _)
   | (with_reducible exact impl_ConfOk.mono _ _)
   | (with_reducible exact LeO.refl _)
   | (with_reducible exact LeO.none _)
   | (with_reducible refine LeO.ite ?_ ?_)
   | (with_reducible refine LeO.bind ?_ (fun _ => ?_))
   | exact ih0 _ _ _
   | exact impl_ConfOk.mono _ _
   | exact LeO.none _
   | refine LeO.ite ?_ ?_
   | refine LeO.bind ?_ (fun _ => ?_)
set_option maxHeartbeats 8000000 in
set_option maxRecDepth 100000 in
theorem impl_ReadConf.calls (k : Nat) (a0 : ByteArray) (r1 : List Int) (r2 : Bool) (w : World) (h : impl_ReadConf.f k a0 = some (r1, r2)) :
  Calls Tryd.prog 80 #[.string a0] w fun e w' => ∃ v0_ : Value, e = .returned (.tuple #[v0_, .bool r2]) ∧ Kd.R (Kd.int .i64) 3 w' w.heap.size (fun _ => True) v0_ r1 ∧ Below w.heap.size w w' := by
 have HB := Aside0.mk (Below.refl w.heap.size w)
 have H : (impl_ReadConf.l0 k a0 (([] : List Int)) 0) = some (r1, r2) := h
 clear h
 obtain ⟨y286, hy286⟩ : ∃ y_ : List Int, y_ = (([] : List Int)) := ⟨_, rfl⟩
 replace H : (impl_ReadConf.l0 k a0 y286 0) = some (r1, r2) := by first | (rw [hy286]; with_reducible exact H) | (have H2_ := (Option.bind_some _ _).symm.trans H; rw [hy286]; with_reducible exact H2_) | (have H2_ := (Option.bind_some _ _).symm.trans H; with_reducible exact H2_) | with_reducible exact H | (rw [hy286]; exact H) | exact H
 have Ny286 := Aside0.mk hy286
 clear hy286
 have H' := Aside0.mk H
 clear H
 go_enter Tryd.func80, Tryd.ntmps80
 go_wp2_with (first | ((with_reducible refine gate_dst (N := 6) rfl ?_); refine Kd.R_lit (Kd.int .i64) _ 3 ?hg (N := 6) ?hd (xs := ([] : List Int)) (inner := []) (ok := fun _ => True) (okp := fun _ => True) ?hr ?hp (fun _ hk => hk) trivial (Below.refl _ _) (Nat.le_refl _) (by simp) ?_; (case hd => rfl); (case hg => rfl); (case hr => first | (go_simp; done) | (go_simp; rfl)); (case hp => exact (Reps.none _ _)); intro v287 w2 ho3 hb hg_ hnew_; clear hg_ hnew_; (first | rw [← Ny286.out] at ho3 | (simp only [Int.reduceToNat] at ho3; rw [← Ny286.out] at ho3)); have HO288 := am (Kd.R_lower ho3 (below_size (zb0 HB.out))); replace HB := am (below_step (zb0 HB.out) hb); clear hb ho3))
 go_loopg [4, 5] k (fun kq v4 v5 w' => ∃ (x4_1 : List Int) (x5_1 : Int), v5 = .int .i64 x5_1 ∧ Aside0 (impl_ReadConf.l0 kq a0 x4_1 x5_1 = some (r1, r2)) ∧ Aside0 (kq ≤ k) ∧ Aside0 (Kd.R (Kd.int .i64) 3 w' w.heap.size (fun _ => True) v4 x4_1) ∧ Aside0 (Below w.heap.size w w'))
 case atStart => exact ⟨(y286), (0), (by first | rfl | (simp; done) | (simp [*]; done)), H', ⟨Nat.le_refl _⟩, ⟨rx HO288.out⟩, ⟨zb0 HB.out⟩⟩
 case round =>
  clear H'
  try clear p2
  obtain ⟨x4_1, x5_1, rfl, HA, HK1, HO_4, HB⟩ := hrel
  cases gk with
  | zero => exact absurd HA.out (by simp [impl_ReadConf.l0])
  | succ k1 =>
   have H := HA.out
   clear HA
   simp only [impl_ReadConf.l0] at H
   by_cases c4 : x5_1 < (a0.size : Int)
   ·rw [if_pos c4] at H
    have c4b0 : decide (x5_1 < (a0.size : Int)) = true := decide_eq_true c4
    have c4b1 : decide ((a0.size : Int) ≤ x5_1) = false := decide_eq_false (by omega)
    clear c4
    by_cases c5 : 0 ≤ x5_1
    ·rw [if_pos c5] at H
     have c5b0 : decide (0 ≤ x5_1) = true := decide_eq_true c5
     clear c5
     by_cases c7 : x4_1.length < 17592186044416
     ·rw [if_pos c7] at H
      have LMc7 := Aside0.mk c7
      clear c7
      obtain ⟨y289, hy289⟩ : ∃ y_ : List Int, y_ = (x4_1 ++ [wrap64 (bt a0 x5_1)]) := ⟨_, rfl⟩
      replace H : (impl_ReadConf.l0 k1 a0 y289 (wrap64 (x5_1 + 1))) = some (r1, r2) := by first | (rw [hy289]; with_reducible exact H) | (have H2_ := (Option.bind_some _ _).symm.trans H; rw [hy289]; with_reducible exact H2_) | (have H2_ := (Option.bind_some _ _).symm.trans H; with_reducible exact H2_) | with_reducible exact H | (rw [hy289]; exact H) | exact H
      have Ny289 := Aside0.mk hy289
      clear hy289
      have H' := Aside0.mk H
      clear H
      have p6 : 0 ≤ (x5_1 : Int) := of_decide_eq_true (by first | (with_reducible assumption) | assumption)
      have q6 : x5_1 < (a0.size : Int) := of_decide_eq_true (by first | (with_reducible assumption) | assumption)
      have hx6 := bt_at a0 x5_1
      replace p6 := eq_true p6
      replace q6 := eq_true q6
      go_wp2_with (first | ((with_reducible refine gate_builtin (b := .append) (xs := #[.tmp 13, .tmp 18]) rfl ?_); at_builtin; refine Kd.R_append (Kd.int .i64) (w0 := w) w.heap.size rfl (.tmp 13) (.tmp 18) 46 3 (.int .i64 0) 8 rfl Tryd.underlying46 info3 rfl (by decide) (by omega) u4 x4_1 (wrap64 (bt a0 x5_1)) [.int .i64 (wrap64 (bt a0 x5_1))] (fun _ => True) (fun _ => False) rfl rfl ?aP (fun _ hk => hk.elim) ?aF ?aO ?aB ?aS ?aL ?_; (case aP => exact rfl); (case aB => exact (zb0 HB.out)); (case aF => exact (fun _ _ => trivial)); (case aO => exact (rx HO_4.out)); (case aS => exact (below_size (zb0 HB.out))); (case aL => have := LMc7.out; omega); intro v290 w8 ho hb hg hat; rw [← Ny289.out] at ho; have HO291 := am (ho); replace HB := am (hb); clear HO_4; clear ho hb hg hat))
      go_roundg k1
      case measure => have := HK1.out; omega
      case rel => exact ⟨(y289), (wrap64 (x5_1 + 1)), (by first | rfl | (simp; done) | (simp [*]; done)), H', ⟨by have := HK1.out; omega⟩, ⟨rx HO291.out⟩, ⟨zb0 HB.out⟩⟩
     ·rw [if_neg c7] at H
      exact absurd H (by simp)
    ·rw [if_neg c5] at H
     exact absurd H (by simp)
   ·rw [if_neg c4] at H
    have c4b0 : decide (x5_1 < (a0.size : Int)) = false := decide_eq_false c4
    have c4b1 : decide ((a0.size : Int) ≤ x5_1) = true := decide_eq_true (by omega)
    clear c4
    replace H := Option.bind_eq_some_iff.mp H
    obtain ⟨t292, A90, H⟩ := H
    try dsimp only at H
    have A9 := Aside0.mk A90
    clear A90
    by_cases c10 : t292 = true
    ·subst c10
     have H1 : (some (x4_1, true)) = some (r1, r2) := by rw [if_pos rfl] at H; exact H
     clear H
     have H := H1
     clear H1
     simp only [Option.some.injEq, Prod.mk.injEq] at H
     obtain ⟨rfl, rfl⟩ := H
     obtain ⟨Ao11, co11, eo11⟩ := Kd.R_slice HO_4.out
     subst eo11
     go_wp2_with (first | ((with_reducible refine gate_callee (f := 105) rfl ?_); refine goesL_ (some 21) rfl rfl Tryd.func105 (by kernel_rfl) rfl #[.slice Ao11 x4_1.length co11] rfl zr ?_; (with_reducible refine (impl_ConfOk.calls k1 _ _ x4_1 true _ ?side1 ?side2 A9.out).mono ?_); (case side1 => repeat (first | exact (Kd.R_reads' HO_4.out).2.2 | (with_reducible refine Kd.C_alloc ?_ _) | (with_reducible refine Kd.C_drewN ?_ _) | (with_reducible refine Kd.C_drew ?_))); (case side2 => exact (Kd.R_reads' HO_4.out).2.1); rintro e w' ⟨rfl, ⟨nd, rfl⟩⟩; refine ⟨_, rfl, ?_⟩))
     go_ret2
     exact ⟨_, by first | rfl | (simp [errW_none, errW_some] <;> rfl) | (simp [*, errW_none, errW_some] <;> rfl), rx HO_4.out, zb0 HB.out⟩
    ·replace c10 := Bool.eq_false_iff.mpr c10
     subst c10
     have H1 : (some (([] : List Int), false)) = some (r1, r2) := by rw [if_neg (show ¬ (false = true) by decide)] at H; exact H
     clear H
     have H := H1
     clear H1
     simp only [Option.some.injEq, Prod.mk.injEq] at H
     obtain ⟨rfl, rfl⟩ := H
     obtain ⟨Ao12, co12, eo12⟩ := Kd.R_slice HO_4.out
     subst eo12
     go_wp2_with (first | ((with_reducible refine gate_callee (f := 105) rfl ?_); refine goesL_ (some 21) rfl rfl Tryd.func105 (by kernel_rfl) rfl #[.slice Ao12 x4_1.length co12] rfl zr ?_; (with_reducible refine (impl_ConfOk.calls k1 _ _ x4_1 false _ ?side1 ?side2 A9.out).mono ?_); (case side1 => repeat (first | exact (Kd.R_reads' HO_4.out).2.2 | (with_reducible refine Kd.C_alloc ?_ _) | (with_reducible refine Kd.C_drewN ?_ _) | (with_reducible refine Kd.C_drew ?_))); (case side2 => exact (Kd.R_reads' HO_4.out).2.1); rintro e w' ⟨rfl, ⟨nd, rfl⟩⟩; refine ⟨_, rfl, ?_⟩))
     go_ret2
     exact ⟨_, by first | rfl | (simp [errW_none, errW_some] <;> rfl) | (simp [*, errW_none, errW_some] <;> rfl), by first | exact Kd.R_nil _ _ _ _ _ | exact Kd.N_nil _ _ _ _ _ | exact Kd.V_nil _ _ _ _ _ | exact Kd.Q_nil _ _ _ _ _ | exact Kd.S_nil _ _ _ _ _, zb0 HB.out⟩

/-! ### impl_scan_done: function 81 -/
def impl_scan_done.f (s0_0 : ByteArray) (s0_1 : Int) (s0_2 : Bool) : Option (Bool × ByteArray × Int × Bool) := if s0_2 = true then (some (false, s0_0, s0_1, s0_2)) else (some ((s0_1 == (s0_0.size : Int)), s0_0, s0_1, s0_2))
set_option maxHeartbeats 8000000 in
set_option maxRecDepth 100000 in
theorem impl_scan_done.calls (g : Nat) (s0_0 : ByteArray) (s0_1 : Int) (s0_2 : Bool) (r1 : Bool) (r2 : ByteArray) (r3 : Int) (r4 : Bool) (w0 w : World) (hI : IsS105 w0 w g s0_0 s0_1 s0_2) (hB : Below w0.heap.size w0 w) (h : impl_scan_done.f s0_0 s0_1 s0_2 = some (r1, r2, r3, r4)) :
  Calls Tryd.prog 81 #[.pointer (some ⟨g, 0, none⟩)] w fun e w' => e = .returned (.bool r1) ∧ IsS105 w0 w' g r2 r3 r4 ∧ Below w0.heap.size w0 w' ∧ KeepBut w w' g none := by
 have HI0 := Aside0.mk hI
 have HK := Aside0.mk (KeepBut.refl w g none)
 have HL := Aside0.mk hB.size
 clear hI
 have HW0 := Aside0.mk hB.size
 have HB := Aside0.mk hB
 clear hB
 have H : (if s0_2 = true then (some (false, s0_0, s0_1, s0_2)) else (some ((s0_1 == (s0_0.size : Int)), s0_0, s0_1, s0_2))) = some (r1, r2, r3, r4) := h
 clear h
 by_cases c2 : s0_2 = true
 ·subst c2
  have H1 : (some (false, s0_0, s0_1, true)) = some (r1, r2, r3, r4) := by rw [if_pos rfl] at H; exact H
  clear H
  have H := H1
  clear H1
  simp only [Option.some.injEq, Prod.mk.injEq] at H
  obtain ⟨rfl, rfl, rfl, rfl⟩ := H
  obtain ⟨HGz3, hgz3⟩ := HI0.out
  have hcz3_0 := cellS105_0 HGz3
  have hcz3_1 := cellS105_1 HGz3
  have hcz3_2 := cellS105_2 HGz3
  have hfz3_0 := blk_frozen HGz3 0
  have hfz3_1 := blk_frozen HGz3 1
  have hfz3_2 := blk_frozen HGz3 2
  clear HGz3 hgz3
  go_enter Tryd.func81, Tryd.ntmps81
  go_wp2
  repeat (go_quiet (fail); try go_wp2)
  go_ret
  exact ⟨by first | rfl | (simp [errW_none, errW_some] <;> rfl) | (simp [*, errW_none, errW_some] <;> rfl), by repeat (first | (with_reducible first | exact HI0.out | apply IsS105.alloc | apply IsS105.drewN | apply IsS105.drew | apply IsS105.set_0 | apply IsS105.set_1 | apply IsS105.set_2) | exact HI0.out), by repeat (first | (with_reducible first | exact HB.out | apply below_alloc | apply pw_below_drewN | apply below_drew1 | refine below_set ?_ (IsS105.ge HI0.out)) | exact HB.out), by repeat (first | (with_reducible first | exact HK.out | apply KeepBut.set_ | apply keep_drewN | apply keep_drew | apply keep_alloc) | exact HK.out)⟩
 ·replace c2 := Bool.eq_false_iff.mpr c2
  subst c2
  have H1 : (some ((s0_1 == (s0_0.size : Int)), s0_0, s0_1, false)) = some (r1, r2, r3, r4) := by rw [if_neg (show ¬ (false = true) by decide)] at H; exact H
  clear H
  have H := H1
  clear H1
  simp only [Option.some.injEq, Prod.mk.injEq] at H
  obtain ⟨rfl, rfl, rfl, rfl⟩ := H
  obtain ⟨HGz4, hgz4⟩ := HI0.out
  have hcz4_0 := cellS105_0 HGz4
  have hcz4_1 := cellS105_1 HGz4
  have hcz4_2 := cellS105_2 HGz4
  have hfz4_0 := blk_frozen HGz4 0
  have hfz4_1 := blk_frozen HGz4 1
  have hfz4_2 := blk_frozen HGz4 2
  clear HGz4 hgz4
  go_enter Tryd.func81, Tryd.ntmps81
  go_wp2
  repeat (go_quiet (fail); try go_wp2)
  go_ret
  exact ⟨by first | rfl | (simp [errW_none, errW_some] <;> rfl) | (simp [*, errW_none, errW_some] <;> rfl), by repeat (first | (with_reducible first | exact HI0.out | apply IsS105.alloc | apply IsS105.drewN | apply IsS105.drew | apply IsS105.set_0 | apply IsS105.set_1 | apply IsS105.set_2) | exact HI0.out), by repeat (first | (with_reducible first | exact HB.out | apply below_alloc | apply pw_below_drewN | apply below_drew1 | refine below_set ?_ (IsS105.ge HI0.out)) | exact HB.out), by repeat (first | (with_reducible first | exact HK.out | apply KeepBut.set_ | apply keep_drewN | apply keep_drew | apply keep_alloc) | exact HK.out)⟩

/-! ### impl_isIndex: function 82 -/
def impl_isIndex.f (a0 : Int) : Option (Bool) := (impl_within.f a0 0 1000000).bind fun t293 => (some t293)
set_option maxHeartbeats 8000000 in
set_option maxRecDepth 100000 in
theorem impl_isIndex.calls (a0 : Int) (r : Bool) (w : World) (h : impl_isIndex.f a0 = some r) :
  Calls Tryd.prog 82 #[.int .i64 a0] w fun e w' => e = .returned (.bool r) ∧ Drawn0 w w' := by
 have H : ((impl_within.f a0 0 1000000).bind fun t293 => (some t293)) = some r := h
 clear h
 replace H := Option.bind_eq_some_iff.mp H
 obtain ⟨t293, A20, H⟩ := H
 try dsimp only at H
 have A2 := Aside0.mk A20
 clear A20
 obtain rfl := Option.some.inj H
 go_enter Tryd.func82, Tryd.ntmps82
 go_wp2_with (first | ((with_reducible refine gate_callee (f := 33) rfl ?_); refine goesL_ (some 4) rfl rfl Tryd.func33 (by kernel_rfl) rfl #[.int .i64 a0, .int .i64 0, .int .i64 1000000] rfl zr ?_; (with_reducible refine (impl_within.calls a0 0 1000000 t293 _ A2.out).mono ?_); rintro e w' ⟨rfl, ⟨nd, rfl⟩⟩; refine ⟨_, rfl, ?_⟩))
 go_ret
 exact ⟨by first | rfl | (simp; done) | (simp [*]; done), by repeat (first | exact Drawn0.refl _ | apply Drawn0.step)⟩

/-! ### impl_isTerm: function 83 -/
def impl_isTerm.f (a0 : Int) : Option (Bool) := (impl_within.f a0 0 100000).bind fun t294 => (some t294)
set_option maxHeartbeats 8000000 in
set_option maxRecDepth 100000 in
theorem impl_isTerm.calls (a0 : Int) (r : Bool) (w : World) (h : impl_isTerm.f a0 = some r) :
  Calls Tryd.prog 83 #[.int .i64 a0] w fun e w' => e = .returned (.bool r) ∧ Drawn0 w w' := by
 have H : ((impl_within.f a0 0 100000).bind fun t294 => (some t294)) = some r := h
 clear h
 replace H := Option.bind_eq_some_iff.mp H
 obtain ⟨t294, A20, H⟩ := H
 try dsimp only at H
 have A2 := Aside0.mk A20
 clear A20
 obtain rfl := Option.some.inj H
 go_enter Tryd.func83, Tryd.ntmps83
 go_wp2_with (first | ((with_reducible refine gate_callee (f := 33) rfl ?_); refine goesL_ (some 4) rfl rfl Tryd.func33 (by kernel_rfl) rfl #[.int .i64 a0, .int .i64 0, .int .i64 100000] rfl zr ?_; (with_reducible refine (impl_within.calls a0 0 100000 t294 _ A2.out).mono ?_); rintro e w' ⟨rfl, ⟨nd, rfl⟩⟩; refine ⟨_, rfl, ?_⟩))
 go_ret
 exact ⟨by first | rfl | (simp; done) | (simp [*]; done), by repeat (first | exact Drawn0.refl _ | apply Drawn0.step)⟩

/-! ### impl_ReadSnap: function 53, by hand -/ -- rounds making
/-- What stands while ReadSnap goes on: the cursor in block g, the snapshot to be answered (nothing yet) in b1, the snapshot that is read in b3. -/
structure impl_ReadSnap.Inv (w W : World) (b1 g b3 : Nat) (t : ByteArray) (a : Int) (bad : Bool) (x y : Int) (u : Value) (z : ByteArray) : Prop where
 st : IsS105 w W g t a bad
 r1 : W.heap[b1]? = some (.cells #[.int .i64 0, .int .i64 0, .slice none 0 0, .string ⟨#[]⟩] 48 (0, 0))
 e3 : W.heap[b3]? = some (.cells #[.int .i64 x, .int .i64 y, u, .string z] 48 (0, 0))
 bl : Below w.heap.size w W
 g1 : w.heap.size ≤ b1
 g3 : w.heap.size ≤ b3
 n1 : b1 ≠ g
 n3 : b3 ≠ g
 n13 : b1 ≠ b3
theorem impl_ReadSnap.Inv.call {w W W' : World} {b1 g b3 : Nat} {t t' : ByteArray} {a a' : Int} {bad bad' : Bool} {x y : Int} {u : Value} {z : ByteArray} (h : impl_ReadSnap.Inv w W b1 g b3 t a bad x y u z) (hs : IsS105 w W' g t' a' bad') (hb : Below w.heap.size w W') (hk : KeepBut W W' g none) : impl_ReadSnap.Inv w W' b1 g b3 t' a' bad' x y u z := ⟨hs, hk.blk h.r1 h.n1 (by simp), hk.blk h.e3 h.n3 (by simp), hb, h.g1, h.g3, h.n1, h.n3, h.n13⟩
theorem impl_ReadSnap.Inv.below {w W W' : World} {b1 g b3 : Nat} {t : ByteArray} {a : Int} {bad : Bool} {x y : Int} {u : Value} {z : ByteArray} (h : impl_ReadSnap.Inv w W b1 g b3 t a bad x y u z) (hb : Below W.heap.size W W') : impl_ReadSnap.Inv w W' b1 g b3 t a bad x y u z := ⟨h.st.below hb, blk_below h.r1 hb, blk_below h.e3 hb, below_step h.bl hb, h.g1, h.g3, h.n1, h.n3, h.n13⟩
theorem impl_ReadSnap.Inv.set0 {w W : World} {b1 g b3 : Nat} {t : ByteArray} {a : Int} {bad : Bool} {x y : Int} {u : Value} {z : ByteArray} (h : impl_ReadSnap.Inv w W b1 g b3 t a bad x y u z) (v : Int) : impl_ReadSnap.Inv w (W.setCell ⟨b3, 0, none⟩ (.int .i64 v)) b1 g b3 t a bad v y u z := ⟨h.st.far (Ne.symm h.n3) _, blk_far h.r1 h.n13 _, blk_put h.e3 0 _ rfl, below_set h.bl h.g3, h.g1, h.g3, h.n1, h.n3, h.n13⟩
theorem impl_ReadSnap.Inv.set1 {w W : World} {b1 g b3 : Nat} {t : ByteArray} {a : Int} {bad : Bool} {x y : Int} {u : Value} {z : ByteArray} (h : impl_ReadSnap.Inv w W b1 g b3 t a bad x y u z) (v : Int) : impl_ReadSnap.Inv w (W.setCell ⟨b3, 1, none⟩ (.int .i64 v)) b1 g b3 t a bad x v u z := ⟨h.st.far (Ne.symm h.n3) _, blk_far h.r1 h.n13 _, blk_put h.e3 1 _ rfl, below_set h.bl h.g3, h.g1, h.g3, h.n1, h.n3, h.n13⟩
theorem impl_ReadSnap.Inv.set2 {w W : World} {b1 g b3 : Nat} {t : ByteArray} {a : Int} {bad : Bool} {x y : Int} {u : Value} {z : ByteArray} (h : impl_ReadSnap.Inv w W b1 g b3 t a bad x y u z) (v : Value) : impl_ReadSnap.Inv w (W.setCell ⟨b3, 2, none⟩ (v)) b1 g b3 t a bad x y v z := ⟨h.st.far (Ne.symm h.n3) _, blk_far h.r1 h.n13 _, blk_put h.e3 2 _ rfl, below_set h.bl h.g3, h.g1, h.g3, h.n1, h.n3, h.n13⟩
theorem impl_ReadSnap.Inv.set3 {w W : World} {b1 g b3 : Nat} {t : ByteArray} {a : Int} {bad : Bool} {x y : Int} {u : Value} {z : ByteArray} (h : impl_ReadSnap.Inv w W b1 g b3 t a bad x y u z) (v : ByteArray) : impl_ReadSnap.Inv w (W.setCell ⟨b3, 3, none⟩ (.string v)) b1 g b3 t a bad x y u v := ⟨h.st.far (Ne.symm h.n3) _, blk_far h.r1 h.n13 _, blk_put h.e3 3 _ rfl, below_set h.bl h.g3, h.g1, h.g3, h.n1, h.n3, h.n13⟩
def impl_ReadSnap.Row (w W : World) (b1 g b3 : Nat) (v : Value) (xs : List Int) : Prop := Kd.R (Kd.int .i64) 3 W w.heap.size (fun k => k ≠ b1 ∧ k ≠ b3 ∧ k ≠ g) v xs
theorem impl_ReadSnap.Row.call {w W W' : World} {b1 g b3 : Nat} {v : Value} {xs : List Int} (h : impl_ReadSnap.Row w W b1 g b3 v xs) (hk : KeepBut W W' g none) : impl_ReadSnap.Row w W' b1 g b3 v xs := Kd.R_keep h hk (fun _ q => q.2.2)
theorem impl_ReadSnap.Row.below {w W W' : World} {b1 g b3 : Nat} {v : Value} {xs : List Int} (h : impl_ReadSnap.Row w W b1 g b3 v xs) (hb : Below W.heap.size W W') : impl_ReadSnap.Row w W' b1 g b3 v xs := Kd.R_below h hb
theorem impl_ReadSnap.Row.sete {w W : World} {b1 g b3 : Nat} {v : Value} {xs : List Int} (h : impl_ReadSnap.Row w W b1 g b3 v xs) (j : Nat) (u : Value) : impl_ReadSnap.Row w (W.setCell ⟨b3, j, none⟩ u) b1 g b3 v xs := Kd.R_far h (fun _ q => q.2.1) u
theorem impl_ReadSnap.Row.setr {w W : World} {b1 g b3 : Nat} {v : Value} {xs : List Int} (h : impl_ReadSnap.Row w W b1 g b3 v xs) (j : Nat) (u : Value) : impl_ReadSnap.Row w (W.setCell ⟨b1, j, none⟩ u) b1 g b3 v xs := Kd.R_far h (fun _ q => q.1) u
theorem impl_ReadSnap.Row.mk_ {w W W' : World} {b1 g b3 : Nat} {t : ByteArray} {a : Int} {bad : Bool} {x y : Int} {u : Value} {z : ByteArray} {v : Value} {xs : List Int} (hi : impl_ReadSnap.Inv w W' b1 g b3 t a bad x y u z) (h : Kd.R (Kd.int .i64) 3 W' W.heap.size (fun _ => True) v xs) (hle : w.heap.size ≤ W.heap.size) : impl_ReadSnap.Row w W' b1 g b3 v xs :=
 Kd.R_mono (Kd.R_types (Kd.R_types (Kd.R_types (Kd.R_lower h hle) hi.r1 (by decide)) hi.e3 (by decide)) hi.st.1 (by decide)) (fun _ q => ⟨q.1.1.2, q.1.2, q.2⟩)
def impl_ReadSnap.f (k : Nat) (a0 : ByteArray) : Option (Int × Int × List Int × ByteArray × Bool) :=
 (impl_Unsealed.f k a0).bind fun p0 => (impl_scan_number.f k p0.1 0 (!p0.2)).bind fun p1 => (impl_scan_number.f k p1.2.1 p1.2.2.1 p1.2.2.2).bind fun p2 => (impl_scan_short.f k p2.2.1 p2.2.2.1 p2.2.2.2).bind fun p3 => (impl_scan_short.f k p3.2.1 p3.2.2.1 p3.2.2.2).bind fun p4 =>
 (impl_ReadConf.f k p3.1).bind fun q => (impl_scan_done.f p4.2.1 p4.2.2.1 p4.2.2.2).bind fun p5 => (if p5.1 = true then (if q.2 = true then ((impl_isIndex.f p1.1).bind fun y1 => (if y1 = true then ((impl_isTerm.f p2.1).bind fun y2 => (if y2 = true then (if (a0.size : Int) > 20000 then some (0, 0, ([] : List Int), (⟨#[]⟩ : ByteArray), false) else some (p1.1, p2.1, q.1, p4.1, true)) else some (0, 0, ([] : List Int), (⟨#[]⟩ : ByteArray), false))) else some (0, 0, ([] : List Int), (⟨#[]⟩ : ByteArray), false))) else some (0, 0, ([] : List Int), (⟨#[]⟩ : ByteArray), false)) else some (0, 0, ([] : List Int), (⟨#[]⟩ : ByteArray), false))
theorem impl_ReadSnap.mono : ∀ a0 k, LeO (impl_ReadSnap.f k a0) (impl_ReadSnap.f (k + 1) a0) := by
 intro a0 k
 unfold impl_ReadSnap.f
 repeat' first
   | (with_reducible exact impl_Unsealed.mono _ _)
   | (with_reducible exact impl_scan_number.mono _ _ _ _)
   | (with_reducible exact impl_scan_short.mono _ _ _ _)
   | (with_reducible exact impl_ReadConf.mono _ _)
   | (with_reducible exact LeO.refl _)
   | (with_reducible exact LeO.none _)
   | (with_reducible refine LeO.ite ?_ ?_)
   | (with_reducible refine LeO.bind ?_ (fun _ => ?_))
set_option maxHeartbeats 4000000 in
set_option maxRecDepth 100000 in
theorem impl_ReadSnap.calls (k : Nat) (a0 : ByteArray) (r1 : Int) (r2 : Int) (r3 : List Int) (r4 : ByteArray) (r5 : Bool) (w : World) (h : impl_ReadSnap.f k a0 = some (r1, r2, r3, r4, r5)) :
  Calls Tryd.prog 53 #[.string a0] w fun e w' => ∃ v2_ : Value, e = .returned (.tuple #[.agg #[.int .i64 r1, .int .i64 r2, v2_, .string r4], .bool r5]) ∧ Kd.R (Kd.int .i64) 3 w' w.heap.size (fun _ => True) v2_ r3 ∧ Below w.heap.size w w' := by
 unfold impl_ReadSnap.f at h
 obtain ⟨⟨x0, ok⟩, h0, h⟩ := Option.bind_eq_some_iff.mp h
 obtain ⟨⟨x1, t1, a1, b1⟩, h1, h⟩ := Option.bind_eq_some_iff.mp h
 obtain ⟨⟨x2, t2, a2, b2⟩, h2, h⟩ := Option.bind_eq_some_iff.mp h
 obtain ⟨⟨x3, t3, a3, b3⟩, h3, h⟩ := Option.bind_eq_some_iff.mp h
 obtain ⟨⟨x4, t4, a4, b4⟩, h4, h⟩ := Option.bind_eq_some_iff.mp h
 obtain ⟨⟨xs, okc⟩, hq, h⟩ := Option.bind_eq_some_iff.mp h
 obtain ⟨⟨x5, t5, a5, b5⟩, h5, h⟩ := Option.bind_eq_some_iff.mp h
 simp only at h0 h1 h2 h3 h4 h5 hq h
 have A0 := Aside0.mk h0
 have A1 := Aside0.mk h1
 have A2 := Aside0.mk h2
 have A3 := Aside0.mk h3
 have A4 := Aside0.mk h4
 have A5 := Aside0.mk h5
 have AQ := Aside0.mk hq
 have H := Aside0.mk h
 clear h0 h1 h2 h3 h4 h5 hq h
 have no_ : (some (0, 0, ([] : List Int), (⟨#[]⟩ : ByteArray), false) = some (r1, r2, r3, r4, r5)) → r1 = 0 ∧ r2 = 0 ∧ r3 = [] ∧ r4 = ⟨#[]⟩ ∧ r5 = false := fun h => by simp only [Option.some.injEq, Prod.mk.injEq] at h; exact ⟨h.1.symm, h.2.1.symm, h.2.2.1.symm, h.2.2.2.1.symm, h.2.2.2.2.symm⟩
 have NO := Aside0.mk no_
 clear no_
 go_enter Tryd.func53, Tryd.ntmps53
 go_wp2_with (first | ((with_reducible refine gate_dst (N := 2) rfl ?_); refine box_event ?hg (N := 2) ?hd (cs := #[.int .i64 0, .int .i64 0, .slice none 0 0, .string (⟨#[]⟩ : ByteArray)]) (t := 48) ?hr ?_; (case hd => rfl); (case hg => rfl); (case hr => first | (go_simp; done) | (go_simp; rfl)); intro r hg w_r hbox hb; have Yr := Aside0.mk hbox; have Zr := Aside0.mk hb; have Gr := Aside0.mk hg; clear hbox hb hg) | (go_at_call 77; refine (impl_Unsealed.calls k a0 x0 ok _ A0.out).mono ?_; rintro e_ w_u ⟨rfl, hb⟩; have Yr2 := Aside0.mk (blk_below Yr.out hb); have Zr2 := Aside0.mk (below_step (below_step (Below.refl _ _) Zr.out) hb); clear hb Yr) | ((with_reducible refine gate_dst (N := 20) rfl ?_); refine box_event ?hg (N := 20) ?hd (cs := #[.string x0, .int .i64 0, .bool (!ok)]) (t := 105) ?hr ?_; (case hd => rfl); (case hg => rfl); (case hr => first | (go_simp; done) | (go_simp; rfl)); intro g hg w_g hbox hb; have Yg := Aside0.mk hbox; have Zg := Aside0.mk hb; have Gg := Aside0.mk hg; clear hbox hb hg) | ((with_reducible refine gate_dst (N := 7) rfl ?_); refine box_event ?hg (N := 7) ?hd (cs := #[.int .i64 0, .int .i64 0, .slice none 0 0, .string (⟨#[]⟩ : ByteArray)]) (t := 48) ?hr ?_; (case hd => rfl); (case hg => rfl); (case hr => first | (go_simp; done) | (go_simp; rfl)); intro e hg w_e hbox hb; have Ye := Aside0.mk hbox; have Ze := Aside0.mk hb; have Ge := Aside0.mk hg; clear hbox hb hg; have J0 := Aside0.mk (show impl_ReadSnap.Inv w w_e r g e x0 0 (!ok) 0 0 (.slice none 0 0) ⟨#[]⟩ from ⟨⟨blk_below Yg.out Ze.out, by rw [Gg.out]; exact Zr2.out.size⟩, blk_below (blk_below Yr2.out Zg.out) Ze.out, Ye.out, below_step (below_step Zr2.out Zg.out) Ze.out, Nat.le_of_eq Gr.out.symm, by rw [Ge.out]; exact Nat.le_trans Zr2.out.size Zg.out.size, by rw [Gg.out]; exact Nat.ne_of_lt (blk_lt Yr2.out), by rw [Ge.out]; exact Nat.ne_of_gt (blk_lt Yg.out), by rw [Ge.out]; exact Nat.ne_of_lt (Nat.lt_of_lt_of_le (blk_lt Yr2.out) Zg.out.size)⟩); clear Yr2 Zr Zr2 Gr Yg Zg Gg Ye Ze Ge; have c0 := blk_cell J0.out.e3 0; have c1 := blk_cell J0.out.e3 1; have c2 := blk_cell J0.out.e3 2; have c3 := blk_cell J0.out.e3 3; simp only [List.getElem?_toArray, List.getElem?_cons_zero, List.getElem?_cons_succ] at c0 c1 c2 c3; have f0 := blk_frozen J0.out.e3 0; have f1 := blk_frozen J0.out.e3 1; have f2 := blk_frozen J0.out.e3 2; have f3 := blk_frozen J0.out.e3 3))
 have K0 := Aside0.mk ((((J0.out.set0 0).set1 0).set2 (.slice none 0 0)).set3 ⟨#[]⟩)
 clear J0 c0 c1 c2 c3 f0 f1 f2 f3
 refine (impl_scan_number.calls k g x0 0 (!ok) x1 t1 a1 b1 w _ K0.out.st K0.out.bl A1.out).mono ?_
 rintro e_ w1 ⟨rfl, hs, hb, hk⟩
 have K1 := Aside0.mk (K0.out.call hs hb hk)
 clear hs hb hk K0 A1
 have c0 := blk_cell K1.out.e3 0
 simp only [List.getElem?_toArray, List.getElem?_cons_zero, List.getElem?_cons_succ] at c0
 have f0 := blk_frozen K1.out.e3 0
 go_wp2_with fail
 have K1b := Aside0.mk (K1.out.set0 x1)
 clear K1 c0 f0
 refine (impl_scan_number.calls k g t1 a1 b1 x2 t2 a2 b2 w _ K1b.out.st K1b.out.bl A2.out).mono ?_
 rintro e_ w2 ⟨rfl, hs, hb, hk⟩
 have K2 := Aside0.mk (K1b.out.call hs hb hk)
 clear hs hb hk K1b A2
 have c1 := blk_cell K2.out.e3 1
 simp only [List.getElem?_toArray, List.getElem?_cons_zero, List.getElem?_cons_succ] at c1
 have f1 := blk_frozen K2.out.e3 1
 go_wp2_with fail
 have K2b := Aside0.mk (K2.out.set1 x2)
 clear K2 c1 f1
 refine (impl_scan_short.calls k g t2 a2 b2 x3 t3 a3 b3 w _ K2b.out.st K2b.out.bl A3.out).mono ?_
 rintro e_ w3 ⟨rfl, hs, hb, hk⟩
 have K3 := Aside0.mk (K2b.out.call hs hb hk)
 clear hs hb hk K2b A3
 go_wp2_with fail
 refine (impl_scan_short.calls k g t3 a3 b3 x4 t4 a4 b4 w _ K3.out.st K3.out.bl A4.out).mono ?_
 rintro e_ w4 ⟨rfl, hs, hb, hk⟩
 have K4 := Aside0.mk (K3.out.call hs hb hk)
 clear hs hb hk K3 A4
 have c3 := blk_cell K4.out.e3 3
 simp only [List.getElem?_toArray, List.getElem?_cons_zero, List.getElem?_cons_succ] at c3
 have f3 := blk_frozen K4.out.e3 3
 go_wp2_with fail
 have K4b := Aside0.mk (K4.out.set3 x4)
 clear K4 c3 f3
 refine (impl_ReadConf.calls k x3 xs okc _ AQ.out).mono ?_
 rintro e_ w5 ⟨v, rfl, hr, hb⟩
 have K5 := Aside0.mk (K4b.out.below hb)
 have V5 := Aside0.mk (impl_ReadSnap.Row.mk_ K5.out hr K4b.out.bl.size)
 clear hr hb K4b AQ
 obtain ⟨A_, c_, ev⟩ := Kd.R_slice V5.out
 subst ev
 have c2 := blk_cell K5.out.e3 2
 simp only [List.getElem?_toArray, List.getElem?_cons_zero, List.getElem?_cons_succ] at c2
 have f2 := blk_frozen K5.out.e3 2
 go_wp2_with fail
 have K5b := Aside0.mk (K5.out.set2 (.slice A_ xs.length c_))
 have V5b := Aside0.mk (V5.out.sete 2 (.slice A_ xs.length c_))
 clear K5 V5 c2 f2
 refine (impl_scan_done.calls g t4 a4 b4 x5 t5 a5 b5 w _ K5b.out.st K5b.out.bl A5.out).mono ?_
 rintro e_ w6 ⟨rfl, hs, hb, hk⟩
 have K6 := Aside0.mk (K5b.out.call hs hb hk)
 have V6 := Aside0.mk (V5b.out.call hk)
 clear hs hb hk K5b A5 V5b
 have c0 := blk_cell K6.out.e3 0
 have c1 := blk_cell K6.out.e3 1
 have c2 := blk_cell K6.out.e3 2
 have c3 := blk_cell K6.out.e3 3
 simp only [List.getElem?_toArray, List.getElem?_cons_zero, List.getElem?_cons_succ] at c0 c1 c2 c3
 have f0 := blk_frozen K6.out.e3 0
 have f1 := blk_frozen K6.out.e3 1
 have f2 := blk_frozen K6.out.e3 2
 have f3 := blk_frozen K6.out.e3 3
 have d0 := blk_cell K6.out.r1 0
 have d1 := blk_cell K6.out.r1 1
 have d2 := blk_cell K6.out.r1 2
 have d3 := blk_cell K6.out.r1 3
 simp only [List.getElem?_toArray, List.getElem?_cons_zero, List.getElem?_cons_succ] at d0 d1 d2 d3
 have g0 := blk_frozen K6.out.r1 0
 have g1 := blk_frozen K6.out.r1 1
 have g2 := blk_frozen K6.out.r1 2
 have g3 := blk_frozen K6.out.r1 3
 cases x5 with
 | false =>
  obtain ⟨rfl, rfl, rfl, rfl, rfl⟩ := NO.out (by have h_ := H.out; simpa using h_)
  clear NO
  go_wp2
  refine bodyPost_ret (results_list (rs := [.cell 2 48, .tmp 3]) rfl (by simp) (.cell r 48 #[.int .i64 0, .int .i64 0, .slice none 0 0, .string (⟨#[]⟩ : ByteArray)] (0, 0) _ rfl (blk_put (blk_put (blk_put (blk_put K6.out.r1 0 _ rfl) 1 _ rfl) 2 _ rfl) 3 _ rfl) Tryd.underlying48 rfl (by kernel_rfl) (.tmp .nil))) rfl ?_
  exact ⟨_, rfl, Kd.R_nil _ _ _ _ _, below_set (below_set (below_set (below_set (K6.out.bl) K6.out.g1) K6.out.g1) K6.out.g1) K6.out.g1⟩
 | true =>
  cases okc with
  | false =>
   obtain ⟨rfl, rfl, rfl, rfl, rfl⟩ := NO.out (by have h_ := H.out; simpa using h_)
   clear NO
   go_wp2
   refine bodyPost_ret (results_list (rs := [.cell 2 48, .tmp 3]) rfl (by simp) (.cell r 48 #[.int .i64 0, .int .i64 0, .slice none 0 0, .string (⟨#[]⟩ : ByteArray)] (0, 0) _ rfl (blk_put (blk_put (blk_put (blk_put K6.out.r1 0 _ rfl) 1 _ rfl) 2 _ rfl) 3 _ rfl) Tryd.underlying48 rfl (by kernel_rfl) (.tmp .nil))) rfl ?_
   exact ⟨_, rfl, Kd.R_nil _ _ _ _ _, below_set (below_set (below_set (below_set (K6.out.bl) K6.out.g1) K6.out.g1) K6.out.g1) K6.out.g1⟩
  | true =>
   have H1 := H.out
   simp only [if_true] at H1
   obtain ⟨y1, hy1, H2⟩ := Option.bind_eq_some_iff.mp H1
   have Y1 := Aside0.mk hy1
   clear H H1 hy1
   cases y1 with
   | false =>
    obtain ⟨rfl, rfl, rfl, rfl, rfl⟩ := NO.out (by have h_ := H2; simpa using h_)
    clear NO H2
    go_wp2_with (go_at_call 82; refine (impl_isIndex.calls x1 false _ Y1.out).mono ?_; rintro e_ w7 ⟨rfl, nq, hq_⟩; have hb : Below w6.heap.size w6 w7 := (by first | (rw [hq_]; exact pw_below_drewN (Below.refl _ _) nq) | (rw [← hq_]; exact pw_below_drewN (Below.refl _ _) nq)); have K7 := Aside0.mk (K6.out.below hb); have V7 := Aside0.mk (V6.out.below hb); clear hb hq_ c0 c1 c2 c3 f0 f1 f2 f3 d0 d1 d2 d3 g0 g1 g2 g3; have c0 := blk_cell K7.out.e3 0; have c1 := blk_cell K7.out.e3 1; have c2 := blk_cell K7.out.e3 2; have c3 := blk_cell K7.out.e3 3; simp only [List.getElem?_toArray, List.getElem?_cons_zero, List.getElem?_cons_succ] at c0 c1 c2 c3; have f0 := blk_frozen K7.out.e3 0; have f1 := blk_frozen K7.out.e3 1; have f2 := blk_frozen K7.out.e3 2; have f3 := blk_frozen K7.out.e3 3; have d0 := blk_cell K7.out.r1 0; have d1 := blk_cell K7.out.r1 1; have d2 := blk_cell K7.out.r1 2; have d3 := blk_cell K7.out.r1 3; simp only [List.getElem?_toArray, List.getElem?_cons_zero, List.getElem?_cons_succ] at d0 d1 d2 d3; have g0 := blk_frozen K7.out.r1 0; have g1 := blk_frozen K7.out.r1 1; have g2 := blk_frozen K7.out.r1 2; have g3 := blk_frozen K7.out.r1 3)
    refine bodyPost_ret (results_list (rs := [.cell 2 48, .tmp 3]) rfl (by simp) (.cell r 48 #[.int .i64 0, .int .i64 0, .slice none 0 0, .string (⟨#[]⟩ : ByteArray)] (0, 0) _ rfl (blk_put (blk_put (blk_put (blk_put K7.out.r1 0 _ rfl) 1 _ rfl) 2 _ rfl) 3 _ rfl) Tryd.underlying48 rfl (by kernel_rfl) (.tmp .nil))) rfl ?_
    exact ⟨_, rfl, Kd.R_nil _ _ _ _ _, below_set (below_set (below_set (below_set (K7.out.bl) K7.out.g1) K7.out.g1) K7.out.g1) K7.out.g1⟩
   | true =>
    simp only [if_true] at H2
    obtain ⟨y2, hy2, H3⟩ := Option.bind_eq_some_iff.mp H2
    have Y2 := Aside0.mk hy2
    clear H2 hy2
    cases y2 with
    | false =>
     obtain ⟨rfl, rfl, rfl, rfl, rfl⟩ := NO.out (by have h_ := H3; simpa using h_)
     clear NO H3
     go_wp2_with (first | (go_at_call 82; refine (impl_isIndex.calls x1 true _ Y1.out).mono ?_; rintro e_ w7 ⟨rfl, nq, hq_⟩; have hb : Below w6.heap.size w6 w7 := (by first | (rw [hq_]; exact pw_below_drewN (Below.refl _ _) nq) | (rw [← hq_]; exact pw_below_drewN (Below.refl _ _) nq)); have K7 := Aside0.mk (K6.out.below hb); have V7 := Aside0.mk (V6.out.below hb); clear hb hq_ c0 c1 c2 c3 f0 f1 f2 f3 d0 d1 d2 d3 g0 g1 g2 g3; have c0 := blk_cell K7.out.e3 0; have c1 := blk_cell K7.out.e3 1; have c2 := blk_cell K7.out.e3 2; have c3 := blk_cell K7.out.e3 3; simp only [List.getElem?_toArray, List.getElem?_cons_zero, List.getElem?_cons_succ] at c0 c1 c2 c3; have f0 := blk_frozen K7.out.e3 0; have f1 := blk_frozen K7.out.e3 1; have f2 := blk_frozen K7.out.e3 2; have f3 := blk_frozen K7.out.e3 3; have d0 := blk_cell K7.out.r1 0; have d1 := blk_cell K7.out.r1 1; have d2 := blk_cell K7.out.r1 2; have d3 := blk_cell K7.out.r1 3; simp only [List.getElem?_toArray, List.getElem?_cons_zero, List.getElem?_cons_succ] at d0 d1 d2 d3; have g0 := blk_frozen K7.out.r1 0; have g1 := blk_frozen K7.out.r1 1; have g2 := blk_frozen K7.out.r1 2; have g3 := blk_frozen K7.out.r1 3) | (go_at_call 83; refine (impl_isTerm.calls x2 false _ Y2.out).mono ?_; rintro e_ w8 ⟨rfl, nq, hq_⟩; have hb : Below w7.heap.size w7 w8 := (by first | (rw [hq_]; exact pw_below_drewN (Below.refl _ _) nq) | (rw [← hq_]; exact pw_below_drewN (Below.refl _ _) nq)); have K8 := Aside0.mk (K7.out.below hb); have V8 := Aside0.mk (V7.out.below hb); clear hb hq_ c0 c1 c2 c3 f0 f1 f2 f3 d0 d1 d2 d3 g0 g1 g2 g3; have c0 := blk_cell K8.out.e3 0; have c1 := blk_cell K8.out.e3 1; have c2 := blk_cell K8.out.e3 2; have c3 := blk_cell K8.out.e3 3; simp only [List.getElem?_toArray, List.getElem?_cons_zero, List.getElem?_cons_succ] at c0 c1 c2 c3; have f0 := blk_frozen K8.out.e3 0; have f1 := blk_frozen K8.out.e3 1; have f2 := blk_frozen K8.out.e3 2; have f3 := blk_frozen K8.out.e3 3; have d0 := blk_cell K8.out.r1 0; have d1 := blk_cell K8.out.r1 1; have d2 := blk_cell K8.out.r1 2; have d3 := blk_cell K8.out.r1 3; simp only [List.getElem?_toArray, List.getElem?_cons_zero, List.getElem?_cons_succ] at d0 d1 d2 d3; have g0 := blk_frozen K8.out.r1 0; have g1 := blk_frozen K8.out.r1 1; have g2 := blk_frozen K8.out.r1 2; have g3 := blk_frozen K8.out.r1 3))
     refine bodyPost_ret (results_list (rs := [.cell 2 48, .tmp 3]) rfl (by simp) (.cell r 48 #[.int .i64 0, .int .i64 0, .slice none 0 0, .string (⟨#[]⟩ : ByteArray)] (0, 0) _ rfl (blk_put (blk_put (blk_put (blk_put K8.out.r1 0 _ rfl) 1 _ rfl) 2 _ rfl) 3 _ rfl) Tryd.underlying48 rfl (by kernel_rfl) (.tmp .nil))) rfl ?_
     exact ⟨_, rfl, Kd.R_nil _ _ _ _ _, below_set (below_set (below_set (below_set (K8.out.bl) K8.out.g1) K8.out.g1) K8.out.g1) K8.out.g1⟩
    | true =>
     simp only [if_true] at H3
     by_cases cz : (a0.size : Int) > 20000
     ·rw [if_pos cz] at H3
      obtain ⟨rfl, rfl, rfl, rfl, rfl⟩ := NO.out H3
      have cz0 : decide (20000 < (a0.size : Int)) = true := decide_eq_true cz
      have cz1 : decide (20000 < a0.size) = true := decide_eq_true (by omega)
      clear NO H3 cz
      go_wp2_with (first | (go_at_call 82; refine (impl_isIndex.calls x1 true _ Y1.out).mono ?_; rintro e_ w7 ⟨rfl, nq, hq_⟩; have hb : Below w6.heap.size w6 w7 := (by first | (rw [hq_]; exact pw_below_drewN (Below.refl _ _) nq) | (rw [← hq_]; exact pw_below_drewN (Below.refl _ _) nq)); have K7 := Aside0.mk (K6.out.below hb); have V7 := Aside0.mk (V6.out.below hb); clear hb hq_ c0 c1 c2 c3 f0 f1 f2 f3 d0 d1 d2 d3 g0 g1 g2 g3; have c0 := blk_cell K7.out.e3 0; have c1 := blk_cell K7.out.e3 1; have c2 := blk_cell K7.out.e3 2; have c3 := blk_cell K7.out.e3 3; simp only [List.getElem?_toArray, List.getElem?_cons_zero, List.getElem?_cons_succ] at c0 c1 c2 c3; have f0 := blk_frozen K7.out.e3 0; have f1 := blk_frozen K7.out.e3 1; have f2 := blk_frozen K7.out.e3 2; have f3 := blk_frozen K7.out.e3 3; have d0 := blk_cell K7.out.r1 0; have d1 := blk_cell K7.out.r1 1; have d2 := blk_cell K7.out.r1 2; have d3 := blk_cell K7.out.r1 3; simp only [List.getElem?_toArray, List.getElem?_cons_zero, List.getElem?_cons_succ] at d0 d1 d2 d3; have g0 := blk_frozen K7.out.r1 0; have g1 := blk_frozen K7.out.r1 1; have g2 := blk_frozen K7.out.r1 2; have g3 := blk_frozen K7.out.r1 3) | (go_at_call 83; refine (impl_isTerm.calls x2 true _ Y2.out).mono ?_; rintro e_ w8 ⟨rfl, nq, hq_⟩; have hb : Below w7.heap.size w7 w8 := (by first | (rw [hq_]; exact pw_below_drewN (Below.refl _ _) nq) | (rw [← hq_]; exact pw_below_drewN (Below.refl _ _) nq)); have K8 := Aside0.mk (K7.out.below hb); have V8 := Aside0.mk (V7.out.below hb); clear hb hq_ c0 c1 c2 c3 f0 f1 f2 f3 d0 d1 d2 d3 g0 g1 g2 g3; have c0 := blk_cell K8.out.e3 0; have c1 := blk_cell K8.out.e3 1; have c2 := blk_cell K8.out.e3 2; have c3 := blk_cell K8.out.e3 3; simp only [List.getElem?_toArray, List.getElem?_cons_zero, List.getElem?_cons_succ] at c0 c1 c2 c3; have f0 := blk_frozen K8.out.e3 0; have f1 := blk_frozen K8.out.e3 1; have f2 := blk_frozen K8.out.e3 2; have f3 := blk_frozen K8.out.e3 3; have d0 := blk_cell K8.out.r1 0; have d1 := blk_cell K8.out.r1 1; have d2 := blk_cell K8.out.r1 2; have d3 := blk_cell K8.out.r1 3; simp only [List.getElem?_toArray, List.getElem?_cons_zero, List.getElem?_cons_succ] at d0 d1 d2 d3; have g0 := blk_frozen K8.out.r1 0; have g1 := blk_frozen K8.out.r1 1; have g2 := blk_frozen K8.out.r1 2; have g3 := blk_frozen K8.out.r1 3))
      refine bodyPost_ret (results_list (rs := [.cell 2 48, .tmp 3]) rfl (by simp) (.cell r 48 #[.int .i64 0, .int .i64 0, .slice none 0 0, .string (⟨#[]⟩ : ByteArray)] (0, 0) _ rfl (blk_put (blk_put (blk_put (blk_put K8.out.r1 0 _ rfl) 1 _ rfl) 2 _ rfl) 3 _ rfl) Tryd.underlying48 rfl (by kernel_rfl) (.tmp .nil))) rfl ?_
      exact ⟨_, rfl, Kd.R_nil _ _ _ _ _, below_set (below_set (below_set (below_set (K8.out.bl) K8.out.g1) K8.out.g1) K8.out.g1) K8.out.g1⟩
     ·rw [if_neg cz] at H3
      simp only [Option.some.injEq, Prod.mk.injEq] at H3
      obtain ⟨rfl, rfl, rfl, rfl, rfl⟩ := H3
      have cz0 : decide (20000 < (a0.size : Int)) = false := decide_eq_false cz
      have cz1 : decide (20000 < a0.size) = false := decide_eq_false (by omega)
      clear NO cz
      go_wp2_with (first | (go_at_call 82; refine (impl_isIndex.calls x1 true _ Y1.out).mono ?_; rintro e_ w7 ⟨rfl, nq, hq_⟩; have hb : Below w6.heap.size w6 w7 := (by first | (rw [hq_]; exact pw_below_drewN (Below.refl _ _) nq) | (rw [← hq_]; exact pw_below_drewN (Below.refl _ _) nq)); have K7 := Aside0.mk (K6.out.below hb); have V7 := Aside0.mk (V6.out.below hb); clear hb hq_ c0 c1 c2 c3 f0 f1 f2 f3 d0 d1 d2 d3 g0 g1 g2 g3; have c0 := blk_cell K7.out.e3 0; have c1 := blk_cell K7.out.e3 1; have c2 := blk_cell K7.out.e3 2; have c3 := blk_cell K7.out.e3 3; simp only [List.getElem?_toArray, List.getElem?_cons_zero, List.getElem?_cons_succ] at c0 c1 c2 c3; have f0 := blk_frozen K7.out.e3 0; have f1 := blk_frozen K7.out.e3 1; have f2 := blk_frozen K7.out.e3 2; have f3 := blk_frozen K7.out.e3 3; have d0 := blk_cell K7.out.r1 0; have d1 := blk_cell K7.out.r1 1; have d2 := blk_cell K7.out.r1 2; have d3 := blk_cell K7.out.r1 3; simp only [List.getElem?_toArray, List.getElem?_cons_zero, List.getElem?_cons_succ] at d0 d1 d2 d3; have g0 := blk_frozen K7.out.r1 0; have g1 := blk_frozen K7.out.r1 1; have g2 := blk_frozen K7.out.r1 2; have g3 := blk_frozen K7.out.r1 3) | (go_at_call 83; refine (impl_isTerm.calls x2 true _ Y2.out).mono ?_; rintro e_ w8 ⟨rfl, nq, hq_⟩; have hb : Below w7.heap.size w7 w8 := (by first | (rw [hq_]; exact pw_below_drewN (Below.refl _ _) nq) | (rw [← hq_]; exact pw_below_drewN (Below.refl _ _) nq)); have K8 := Aside0.mk (K7.out.below hb); have V8 := Aside0.mk (V7.out.below hb); clear hb hq_ c0 c1 c2 c3 f0 f1 f2 f3 d0 d1 d2 d3 g0 g1 g2 g3; have c0 := blk_cell K8.out.e3 0; have c1 := blk_cell K8.out.e3 1; have c2 := blk_cell K8.out.e3 2; have c3 := blk_cell K8.out.e3 3; simp only [List.getElem?_toArray, List.getElem?_cons_zero, List.getElem?_cons_succ] at c0 c1 c2 c3; have f0 := blk_frozen K8.out.e3 0; have f1 := blk_frozen K8.out.e3 1; have f2 := blk_frozen K8.out.e3 2; have f3 := blk_frozen K8.out.e3 3; have d0 := blk_cell K8.out.r1 0; have d1 := blk_cell K8.out.r1 1; have d2 := blk_cell K8.out.r1 2; have d3 := blk_cell K8.out.r1 3; simp only [List.getElem?_toArray, List.getElem?_cons_zero, List.getElem?_cons_succ] at d0 d1 d2 d3; have g0 := blk_frozen K8.out.r1 0; have g1 := blk_frozen K8.out.r1 1; have g2 := blk_frozen K8.out.r1 2; have g3 := blk_frozen K8.out.r1 3))
      refine bodyPost_ret (results_list (rs := [.cell 2 48, .tmp 3]) rfl (by simp) (.cell r 48 #[.int .i64 x1, .int .i64 x2, .slice A_ xs.length c_, .string x4] (0, 0) _ rfl (blk_put (blk_put (blk_put (blk_put K8.out.r1 0 _ rfl) 1 _ rfl) 2 _ rfl) 3 _ rfl) Tryd.underlying48 rfl (by kernel_rfl) (.tmp .nil))) rfl ?_
      exact ⟨_, rfl, Kd.R_mono (((((V8.out.setr 0 _).setr 1 _).setr 2 _).setr 3 _)) (fun _ _ => trivial), below_set (below_set (below_set (below_set (K8.out.bl) K8.out.g1) K8.out.g1) K8.out.g1) K8.out.g1⟩

/-! ### impl_NewestSnap: function 27 -/
def impl_NewestSnap.l0 : Nat → List (S78) → Int → Int → Int → Int → List Int → ByteArray → Option (Int × Int × List Int × ByteArray × Bool)
 | 0, _, _, _, _, _, _, _ => none
 | k + 1, x16, x17, x18, x298000, x298001, x298002, x298003 => if x18 < x17 then (if 0 ≤ x18 then (if x18 < (x16.length : Int) then ((impl_numberOf.f k ((rd_T78 x16 x18).f0) (⟨#[115]⟩ : ByteArray) 1000000).bind fun t301 => ((impl_ReadSnap.f k ((rd_T78 x16 x18).f1)).bind fun bt302 => (if t301 ≥ 0 then (if bt302.2.2.2.2 = true then (if bt302.1 = t301 then (if t301 > x298000 then (impl_NewestSnap.l0 k x16 x17 (wrap64 (x18 + 1)) bt302.1 bt302.2.1 bt302.2.2.1 bt302.2.2.2.1) else (impl_NewestSnap.l0 k x16 x17 (wrap64 (x18 + 1)) x298000 x298001 x298002 x298003)) else (impl_NewestSnap.l0 k x16 x17 (wrap64 (x18 + 1)) x298000 x298001 x298002 x298003)) else (impl_NewestSnap.l0 k x16 x17 (wrap64 (x18 + 1)) x298000 x298001 x298002 x298003)) else (impl_NewestSnap.l0 k x16 x17 (wrap64 (x18 + 1)) x298000 x298001 x298002 x298003)))) else (none)) else (none)) else (if x298000 < 0 then (some (0, 0, ([] : List Int), (⟨#[]⟩ : ByteArray), false)) else (some (x298000, x298001, x298002, x298003, true)))
def impl_NewestSnap.f (k : Nat) (l0_0 : List (S78)) : Option (Int × Int × List Int × ByteArray × Bool) := (impl_DiskOk.f k l0_0).bind fun t298 => (if t298 = true then (impl_NewestSnap.l0 k l0_0 (l0_0.length : Int) 0 (-1) 0 ([] : List Int) (⟨#[]⟩ : ByteArray)) else (some (0, 0, ([] : List Int), (⟨#[]⟩ : ByteArray), false)))
theorem impl_NewestSnap.mono_l : ∀ k, (∀ y0 y1 y2 y3 y4 y5 y6, LeO (impl_NewestSnap.l0 k y0 y1 y2 y3 y4 y5 y6) (impl_NewestSnap.l0 (k + 1) y0 y1 y2 y3 y4 y5 y6))
 | 0 => fun _ _ _ _ _ _ _ r h => by simp [impl_NewestSnap.l0] at h
 | k + 1 => by
  have ih0 := impl_NewestSnap.mono_l k
  ·intro y0 y1 y2 y3 y4 y5 y6
   unfold impl_NewestSnap.l0
   repeat' first
   | (with_reducible exact ih0 _ _ _ _ _ _ _)
   | (with_reducible exact impl_DiskOk.mono _ _)
   | (with_reducible exact impl_ReadSnap.mono _ _)
   | (with_reducible exact impl_numberOf.mono _ _ _ _)
   | (with_reducible exact LeO.refl _)
   | (with_reducible exact LeO.none _)
   | (with_reducible refine LeO.ite ?_ ?_)
   | (with_reducible refine LeO.bind ?_ (fun _ => ?_))
   | exact ih0 _ _ _ _ _ _ _
   | exact impl_DiskOk.mono _ _
   | exact impl_ReadSnap.mono _ _
   | exact impl_numberOf.mono _ _ _ _
   | exact LeO.none _
   | refine LeO.ite ?_ ?_
   | refine LeO.bind ?_ (fun _ => ?_)
theorem impl_NewestSnap.mono : ∀ a0 k, LeO (impl_NewestSnap.f k a0) (impl_NewestSnap.f (k + 1) a0) := by
 intro a0 k
 have ih0 := impl_NewestSnap.mono_l k
 unfold impl_NewestSnap.f
 repeat' first
   | (with_reducible exact ih0 _ _ _ _ _ _ _)
   | (with_reducible exact impl_DiskOk.mono _ _)
   | (with_reducible exact impl_ReadSnap.mono _ _)
   | (with_reducible exact impl_numberOf.mono _ _ _ _)
   | (with_reducible exact LeO.refl _)
   | (with_reducible exact LeO.none _)
   | (with_reducible refine LeO.ite ?_ ?_)
   | (with_reducible refine LeO.bind ?_ (fun _ => ?_))
   | exact ih0 _ _ _ _ _ _ _
   | exact impl_DiskOk.mono _ _
   | exact impl_ReadSnap.mono _ _
   | exact impl_numberOf.mono _ _ _ _
   | exact LeO.none _
   | refine LeO.ite ?_ ?_
   | refine LeO.bind ?_ (fun _ => ?_)
set_option maxHeartbeats 8000000 in
set_option maxRecDepth 100000 in
theorem impl_NewestSnap.calls (k : Nat) (A0_0 : Option Addr) (c0_0 : Nat) (l0_0 : List (S78)) (r1 : Int) (r2 : Int) (r3 : List Int) (r4 : ByteArray) (r5 : Bool) (w : World) (hr0_0 : Kd.C k78 w A0_0 l0_0.length l0_0) (hc0_0 : l0_0.length ≤ c0_0) (h : impl_NewestSnap.f k l0_0 = some (r1, r2, r3, r4, r5)) (hLW : LaidW w) :
  Calls Tryd.prog 27 #[.agg #[.slice A0_0 l0_0.length c0_0]] w fun e w' => ∃ v2_ : Value, e = .returned (.tuple #[.agg #[.int .i64 r1, .int .i64 r2, v2_, .string r4], .bool r5]) ∧ Kd.R (Kd.int .i64) 3 w' w.heap.size (fun _ => True) v2_ r3 ∧ Below w.heap.size w w' := by
 have HLW := Aside0.mk hLW
 clear hLW
 have hu53 := Tryd.underlying53
 have hu48 := Tryd.underlying48
 have hu78 := Tryd.underlying78
 have HR0_0 := Aside0.mk hr0_0
 have HC0_0 := Aside0.mk hc0_0
 clear hr0_0 hc0_0
 have HB := Aside0.mk (Below.refl w.heap.size w)
 have H : ((impl_DiskOk.f k l0_0).bind fun t298 => (if t298 = true then (impl_NewestSnap.l0 k l0_0 (l0_0.length : Int) 0 (-1) 0 ([] : List Int) (⟨#[]⟩ : ByteArray)) else (some (0, 0, ([] : List Int), (⟨#[]⟩ : ByteArray), false)))) = some (r1, r2, r3, r4, r5) := h
 clear h
 replace H := Option.bind_eq_some_iff.mp H
 obtain ⟨t298, A20, H⟩ := H
 try dsimp only at H
 have A2 := Aside0.mk A20
 clear A20
 by_cases c3 : t298 = true
 ·subst c3
  have H1 : (impl_NewestSnap.l0 k l0_0 (l0_0.length : Int) 0 (-1) 0 ([] : List Int) (⟨#[]⟩ : ByteArray)) = some (r1, r2, r3, r4, r5) := by rw [if_pos rfl] at H; exact H
  clear H
  have H := H1
  clear H1
  have H' := Aside0.mk H
  clear H
  go_enter Tryd.func27, Tryd.ntmps27
  go_wp2_with (first | ((with_reducible refine gate_dst (N := 1) rfl ?_); refine box_event ?hg (N := 1) ?hd (cs := #[.slice A0_0 l0_0.length c0_0]) (t := 53) ?hr ?_; (case hd => rfl); (case hg => rfl); (case hr => first | (go_simp; done) | (go_simp; rfl)); intro gb295 hg w4 hbox hb; have BK295 := am (hbox); have GW295 := zge hg (zb0 HB.out); have GE295 := zge hg (zb0 HB.out); replace HB := am (below_step (zb0 HB.out) hb); clear hb hbox hg) | ((with_reducible refine gate_dst (N := 2) rfl ?_); refine box_event ?hg (N := 2) ?hd (cs := #[.int .i64 0, .int .i64 0, .slice none 0 0, .string (⟨#[]⟩ : ByteArray)]) (t := 48) ?hr ?_; (case hd => rfl); (case hg => rfl); (case hr => first | (go_simp; done) | (go_simp; rfl)); intro gb296 hg w5 hbox hb; have BK296 := am (hbox); have GW296 := zge hg (zb1 HB.out GE295.out); have GE296 := zge hg (zb1 HB.out GE295.out); have NB295_296 := znl hg (kx BK295.out); have NB296_295 := zng hg (kx BK295.out); replace BK295 := am (bb hb (kx BK295.out)); replace HB := am (below_step (zb1 HB.out GE295.out) hb); clear hb hbox hg) | ((with_reducible refine gate_dst (N := 4) rfl ?_); refine box_event ?hg (N := 4) ?hd (cs := #[.int .i64 0, .int .i64 0, .slice none 0 0, .string (⟨#[]⟩ : ByteArray)]) (t := 48) ?hr ?_; (case hd => rfl); (case hg => rfl); (case hr => first | (go_simp; done) | (go_simp; rfl)); intro gb297 hg w6 hbox hb; have BK297 := am (hbox); have GW297 := zge hg (zb2 HB.out GE295.out GE296.out); have GE297 := zge hg (zb2 HB.out GE295.out GE296.out); have NB295_297 := znl hg (kx BK295.out); have NB297_295 := zng hg (kx BK295.out); have NB296_297 := znl hg (kx BK296.out); have NB297_296 := zng hg (kx BK296.out); replace BK295 := am (bb hb (kx BK295.out)); replace BK296 := am (bb hb (kx BK296.out)); replace HB := am (below_step (zb2 HB.out GE295.out GE296.out) hb); clear hb hbox hg; have hnb7 := NB297_295.out; have hnc7 := NB295_297.out; have hnb8 := NB297_296.out; have hnc8 := NB296_297.out; obtain ⟨hcz9_0, hcz9_1, hcz9_2, hcz9_3, hfz9_0, hfz9_1, hfz9_2, hfz9_3⟩ := zc4 BK297.out; have hnb10 := NB295_296.out; have hnc10 := NB296_295.out; obtain ⟨hcz11_0, hfz11_0⟩ := zc1 BK295.out) | ((with_reducible refine gate_callee (f := 51) rfl ?_); refine goesL_ (some 12) rfl rfl Tryd.func51 (by kernel_rfl) rfl #[.agg #[.slice A0_0 l0_0.length c0_0]] rfl zr ?_; (with_reducible refine (impl_DiskOk.calls k _ _ l0_0 true _ ?side1 ?side2 A2.out).mono ?_); (case side1 => exact Kd.C_below HR0_0.out (zb3 HB.out GE295.out GE296.out GE297.out)); (case side2 => exact HC0_0.out); rintro e w12 ⟨rfl, hb⟩; refine ⟨_, rfl, ?_⟩; replace BK295 := am (bb hb (zf1 BK295.out NB295_297.out)); replace BK296 := am (bb hb (zf1 BK296.out NB296_297.out)); replace BK297 := am (blk_below (g := gb297) (o := .cells #[.int .i64 (-1), .int .i64 0, .slice none 0 0, .string (⟨#[]⟩ : ByteArray)] 48 (0, 0)) (by (with_reducible repeat (first | refine blk_drewN ?_ _ | refine blk_drew ?_ | refine blk_alloc ?_ _)); refine blk_put (cs := #[.int .i64 (-1), .int .i64 0, .slice none 0 0, .string (⟨#[]⟩ : ByteArray)]) ?_ 3 _ rfl; (with_reducible repeat (first | refine blk_drewN ?_ _ | refine blk_drew ?_ | refine blk_alloc ?_ _)); refine blk_put (cs := #[.int .i64 (-1), .int .i64 0, .slice none 0 0, .string (⟨#[]⟩ : ByteArray)]) ?_ 2 _ rfl; (with_reducible repeat (first | refine blk_drewN ?_ _ | refine blk_drew ?_ | refine blk_alloc ?_ _)); refine blk_put (cs := #[.int .i64 (-1), .int .i64 0, .slice none 0 0, .string (⟨#[]⟩ : ByteArray)]) ?_ 1 _ rfl; (with_reducible repeat (first | refine blk_drewN ?_ _ | refine blk_drew ?_ | refine blk_alloc ?_ _)); refine blk_put (cs := #[.int .i64 0, .int .i64 0, .slice none 0 0, .string (⟨#[]⟩ : ByteArray)]) ?_ 0 _ rfl; (with_reducible repeat (first | refine blk_drewN ?_ _ | refine blk_drew ?_ | refine blk_alloc ?_ _)); exact BK297.out) hb); replace HB := am (below_step (zb3 HB.out GE295.out GE296.out GE297.out) hb); (try clear hb); (try clear hb2); (try clear hk); (try clear hi); obtain ⟨hcz13_0, hfz13_0⟩ := zc1 BK295.out))
  go_loopg [18] k (fun kq v18 w' => ∃ (x18_1 : Int) (x298000_1 : Int) (x298001_1 : Int) (x298002_1 : List Int) (x298003_1 : ByteArray) (u298002 : Value), v18 = .int .i64 x18_1 ∧ Aside0 (impl_NewestSnap.l0 kq l0_0 (l0_0.length : Int) x18_1 x298000_1 x298001_1 x298002_1 x298003_1 = some (r1, r2, r3, r4, r5)) ∧ Aside0 (kq ≤ k) ∧ Aside0 (Kd.R (Kd.int .i64) 3 w' w.heap.size (fun _ => True) u298002 x298002_1) ∧ Aside0 (w'.heap[gb295]? = some (.cells #[(.slice A0_0 l0_0.length c0_0)] 53 (0, 0))) ∧ Aside0 (w'.heap[gb296]? = some (.cells #[.int .i64 0, .int .i64 0, (.slice none 0 0), .string (⟨#[]⟩ : ByteArray)] 48 (0, 0))) ∧ Aside0 (w'.heap[gb297]? = some (.cells #[.int .i64 x298000_1, .int .i64 x298001_1, u298002, .string x298003_1] 48 (0, 0))) ∧ Aside0 (Below w.heap.size w w'))
  case atStart => exact ⟨(0), ((-1)), (0), (([] : List Int)), ((⟨#[]⟩ : ByteArray)), (.slice none 0 0), (by first | rfl | (simp; done) | (simp [*]; done)), H', ⟨Nat.le_refl _⟩, ⟨by first | exact Kd.R_nil _ _ _ _ _ | exact Kd.N_nil _ _ _ _ _ | exact Kd.V_nil _ _ _ _ _ | exact Kd.Q_nil _ _ _ _ _ | exact Kd.S_nil _ _ _ _ _⟩, ⟨kx BK295.out⟩, ⟨kx BK296.out⟩, ⟨kx BK297.out⟩, ⟨zb3 HB.out GE295.out GE296.out GE297.out⟩⟩
  case round =>
   clear H'
   try clear c1
   try clear c2
   try clear p2
   try clear c3
   try clear c5
   try clear c7
   try clear c8
   try clear c10
   try clear hcz11_0
   try clear hcz13_0
   try clear hcz9_0
   try clear hcz9_1
   try clear hcz9_2
   try clear hcz9_3
   try clear hfz11_0
   try clear hfz13_0
   try clear hfz9_0
   try clear hfz9_1
   try clear hfz9_2
   try clear hfz9_3
   obtain ⟨x18_1, x298000_1, x298001_1, x298002_1, x298003_1, u298002, rfl, HA, HK1, HO_298002, BK295, BK296, BK297, HB⟩ := hrel
   cases gk with
   | zero => exact absurd HA.out (by simp [impl_NewestSnap.l0])
   | succ k1 =>
    have H := HA.out
    clear HA
    simp only [impl_NewestSnap.l0] at H
    by_cases c14 : x18_1 < (l0_0.length : Int)
    ·rw [if_pos c14] at H
     have c14b0 : decide (x18_1 < (l0_0.length : Int)) = true := decide_eq_true c14
     have c14b1 : decide ((l0_0.length : Int) ≤ x18_1) = false := decide_eq_false (by omega)
     clear c14
     by_cases c15 : 0 ≤ x18_1
     ·rw [if_pos c15] at H
      have c15b0 : decide (0 ≤ x18_1) = true := decide_eq_true c15
      clear c15
      by_cases c16 : x18_1 < (l0_0.length : Int)
      ·rw [if_pos c16] at H
       have c16b0 : decide (x18_1 < (l0_0.length : Int)) = true := decide_eq_true c16
       have c16b1 : decide ((l0_0.length : Int) ≤ x18_1) = false := decide_eq_false (by omega)
       clear c16
       replace H := Option.bind_eq_some_iff.mp H
       obtain ⟨t301, A170, H⟩ := H
       try dsimp only at H
       have A17 := Aside0.mk A170
       clear A170
       replace H := Option.bind_eq_some_iff.mp H
       obtain ⟨⟨t302, t303, t304, t307, t308⟩, A180, H⟩ := H
       try dsimp only at H
       have A18 := Aside0.mk A180
       clear A180
       by_cases c19 : t301 ≥ 0
       ·rw [if_pos c19] at H
        have c19b0 : decide (0 ≤ t301) = true := decide_eq_true c19
        clear c19
        by_cases c20 : t308 = true
        ·subst c20
         have H1 : (if t302 = t301 then (if t301 > x298000_1 then (impl_NewestSnap.l0 k1 l0_0 (l0_0.length : Int) (wrap64 (x18_1 + 1)) t302 t303 t304 t307) else (impl_NewestSnap.l0 k1 l0_0 (l0_0.length : Int) (wrap64 (x18_1 + 1)) x298000_1 x298001_1 x298002_1 x298003_1)) else (impl_NewestSnap.l0 k1 l0_0 (l0_0.length : Int) (wrap64 (x18_1 + 1)) x298000_1 x298001_1 x298002_1 x298003_1)) = some (r1, r2, r3, r4, r5) := by rw [if_pos rfl] at H; exact H
         clear H
         have H := H1
         clear H1
         by_cases c21 : t302 = t301
         ·rw [if_pos c21] at H
          have c21b0 : (t302 == t301) = true := beq_iff_eq.mpr c21
          have c21b1 : (t302 != t301) = false := bne_eq_false_iff_eq.mpr c21
          clear c21
          by_cases c22 : t301 > x298000_1
          ·rw [if_pos c22] at H
           have c22b0 : decide (x298000_1 < t301) = true := decide_eq_true c22
           have c22b1 : decide (t301 ≤ x298000_1) = false := decide_eq_false (by omega)
           clear c22
           have H' := Aside0.mk H
           clear H
           have p299 : 0 ≤ (x18_1 : Int) := of_decide_eq_true (by first | (with_reducible assumption) | assumption)
           have q299 : x18_1 < (l0_0.length : Int) := of_decide_eq_true (by first | (with_reducible assumption) | assumption)
           obtain ⟨ad299, e299, hx299_0, hx299_1, hx299_2⟩ := at_T78 HR0_0.out x18_1 p299 q299
           cases e299
           replace hx299_0 := (HB.out.cell (World.block_lt_of_cell? w _ hx299_0)).trans hx299_0
           replace hx299_1 := (HB.out.cell (World.block_lt_of_cell? w _ hx299_1)).trans hx299_1
           replace hx299_2 := (HB.out.cell (World.block_lt_of_cell? w _ hx299_2)).trans hx299_2
           replace p299 := eq_true p299
           replace q299 := eq_true q299
           go_wp2_with (first | ((with_reducible refine gate_dst (N := 6) rfl ?_); refine box_event ?hg (N := 6) ?hd (cs := #[.string (⟨#[]⟩ : ByteArray), .string (⟨#[]⟩ : ByteArray), .int .i64 0]) (t := 78) ?hr ?_; (case hd => rfl); (case hg => rfl); (case hr => first | (go_simp; done) | (go_simp; rfl)); intro gb300 hg w23 hbox hb; have BK300 := am (hbox); have GW300 := zge hg (zb3 HB.out GE295.out GE296.out GE297.out); have GE300 := zge hg (zb3 HB.out GE295.out GE296.out GE297.out); have NB295_300 := znl hg (kx BK295.out); have NB300_295 := zng hg (kx BK295.out); have NB296_300 := znl hg (kx BK296.out); have NB300_296 := zng hg (kx BK296.out); have NB297_300 := znl hg (kx BK297.out); have NB300_297 := zng hg (kx BK297.out); replace HO_298002 := am (Kd.R_below (rx HO_298002.out) hb); replace BK295 := am (bb hb (kx BK295.out)); replace BK296 := am (bb hb (kx BK296.out)); replace BK297 := am (bb hb (kx BK297.out)); replace HB := am (below_step (zb3 HB.out GE295.out GE296.out GE297.out) hb); clear hb hbox hg; have hnb24 := NB300_295.out; have hnc24 := NB295_300.out; have hnb25 := NB300_296.out; have hnc25 := NB296_300.out; have hnb26 := NB300_297.out; have hnc26 := NB297_300.out; obtain ⟨hcz27_0, hcz27_1, hcz27_2, hfz27_0, hfz27_1, hfz27_2⟩ := zc3 BK300.out) | ((with_reducible refine gate_callee (f := 52) rfl ?_); refine goesL_ (some 24) rfl rfl Tryd.func52 (by kernel_rfl) rfl #[.string ((rd_T78 l0_0 x18_1).f0), .string (⟨#[115]⟩ : ByteArray), .int .i64 1000000] rfl zr ?_; (with_reducible refine (impl_numberOf.calls k1 ((rd_T78 l0_0 x18_1).f0) (⟨#[115]⟩ : ByteArray) 1000000 t301 _ A17.out ?laid).mono ?_); (case laid => exact LaidW.later HLW.out (zb4 HB.out GE295.out GE296.out GE297.out GE300.out)); rintro e w28 ⟨rfl, hb⟩; refine ⟨_, rfl, ?_⟩; replace HO_298002 := am (Kd.R_below (rx ((Kd.R_mono (Kd.R_far (p := ⟨gb300, 2, none⟩) (Kd.R_far (p := ⟨gb300, 1, none⟩) (Kd.R_far (p := ⟨gb300, 0, none⟩) (Kd.R_types HO_298002.out BK300.out (by decide)) (fun _ hk => hk.2) (.string ((rd_T78 l0_0 x18_1).f0))) (fun _ hk => hk.2) (.string ((rd_T78 l0_0 x18_1).f1))) (fun _ hk => hk.2) (.int .i64 ((rd_T78 l0_0 x18_1).f2))) (fun _ h_ => h_.1)))) hb); replace BK295 := am (bb hb (zf1 BK295.out NB295_300.out)); replace BK296 := am (bb hb (zf1 BK296.out NB296_300.out)); replace BK297 := am (bb hb (zf1 BK297.out NB297_300.out)); replace BK300 := am (blk_below (g := gb300) (o := .cells #[.string ((rd_T78 l0_0 x18_1).f0), .string ((rd_T78 l0_0 x18_1).f1), .int .i64 ((rd_T78 l0_0 x18_1).f2)] 78 (0, 0)) (by (with_reducible repeat (first | refine blk_drewN ?_ _ | refine blk_drew ?_ | refine blk_alloc ?_ _)); refine blk_put (cs := #[.string ((rd_T78 l0_0 x18_1).f0), .string ((rd_T78 l0_0 x18_1).f1), .int .i64 0]) ?_ 2 _ rfl; (with_reducible repeat (first | refine blk_drewN ?_ _ | refine blk_drew ?_ | refine blk_alloc ?_ _)); refine blk_put (cs := #[.string ((rd_T78 l0_0 x18_1).f0), .string (⟨#[]⟩ : ByteArray), .int .i64 0]) ?_ 1 _ rfl; (with_reducible repeat (first | refine blk_drewN ?_ _ | refine blk_drew ?_ | refine blk_alloc ?_ _)); refine blk_put (cs := #[.string (⟨#[]⟩ : ByteArray), .string (⟨#[]⟩ : ByteArray), .int .i64 0]) ?_ 0 _ rfl; (with_reducible repeat (first | refine blk_drewN ?_ _ | refine blk_drew ?_ | refine blk_alloc ?_ _)); exact BK300.out) hb); replace HB := am (below_step (zb4 HB.out GE295.out GE296.out GE297.out GE300.out) hb); (try clear hb); (try clear hb2); (try clear hk); (try clear hi); obtain ⟨hcz29_0, hcz29_1, hcz29_2, hfz29_0, hfz29_1, hfz29_2⟩ := zc3 BK300.out) | ((with_reducible refine gate_callee (f := 53) rfl ?_); refine goesL_ (some 28) rfl rfl Tryd.func53 (by kernel_rfl) rfl #[.string ((rd_T78 l0_0 x18_1).f1)] rfl zr ?_; (with_reducible refine (impl_ReadSnap.calls k1 ((rd_T78 l0_0 x18_1).f1) t302 t303 t304 t307 true _ A18.out).mono ?_); rintro e w30 ⟨v305, rfl, ho0, hb⟩; refine ⟨_, rfl, ?_⟩; have HO306 := am (Kd.R_lower (Kd.R_new' ho0 (Kd.R_lt (rx HO_298002.out))) (below_size (zb4 HB.out GE295.out GE296.out GE297.out GE300.out))); replace HO_298002 := am (Kd.R_elder' (rx HO_298002.out) (Kd.R_base ho0) hb); replace BK295 := am (bb hb (kx BK295.out)); replace BK296 := am (bb hb (kx BK296.out)); replace BK297 := am (bb hb (kx BK297.out)); replace BK300 := am (bb hb (kx BK300.out)); replace HB := am (below_step (zb4 HB.out GE295.out GE296.out GE297.out GE300.out) hb); (try clear hb); (try clear hb2); (try clear hk); (try clear hi); (try clear ho0)) | ((with_reducible refine gate_dst (N := 8) rfl ?_); refine box_event ?hg (N := 8) ?hd (cs := #[.int .i64 0, .int .i64 0, .slice none 0 0, .string (⟨#[]⟩ : ByteArray)]) (t := 48) ?hr ?_; (case hd => rfl); (case hg => rfl); (case hr => first | (go_simp; done) | (go_simp; rfl)); intro gb309 hg w31 hbox hb; have BK309 := am (hbox); have GW309 := zge hg (zb4 HB.out GE295.out GE296.out GE297.out GE300.out); have GE309 := zge hg (zb4 HB.out GE295.out GE296.out GE297.out GE300.out); have NB295_309 := znl hg (kx BK295.out); have NB309_295 := zng hg (kx BK295.out); have NB296_309 := znl hg (kx BK296.out); have NB309_296 := zng hg (kx BK296.out); have NB297_309 := znl hg (kx BK297.out); have NB309_297 := zng hg (kx BK297.out); have NB300_309 := znl hg (kx BK300.out); have NB309_300 := zng hg (kx BK300.out); replace HO_298002 := am (Kd.R_below (rx HO_298002.out) hb); replace HO306 := am (Kd.R_below (rx HO306.out) hb); replace BK295 := am (bb hb (kx BK295.out)); replace BK296 := am (bb hb (kx BK296.out)); replace BK297 := am (bb hb (kx BK297.out)); replace BK300 := am (bb hb (kx BK300.out)); replace HB := am (below_step (zb4 HB.out GE295.out GE296.out GE297.out GE300.out) hb); clear hb hbox hg; have hnb32 := NB309_295.out; have hnc32 := NB295_309.out; have hnb33 := NB309_296.out; have hnc33 := NB296_309.out; have hnb34 := NB309_297.out; have hnc34 := NB297_309.out; have hnb35 := NB309_300.out; have hnc35 := NB300_309.out; obtain ⟨hcz36_0, hcz36_1, hcz36_2, hcz36_3, hfz36_0, hfz36_1, hfz36_2, hfz36_3⟩ := zc4 BK309.out; obtain ⟨Ao37, co37, eo37⟩ := Kd.R_slice HO306.out; subst eo37; have hnb38 := NB297_295.out; have hnc38 := NB295_297.out; have hnb39 := NB297_296.out; have hnc39 := NB296_297.out; obtain ⟨hcz40_0, hcz40_1, hcz40_2, hcz40_3, hfz40_0, hfz40_1, hfz40_2, hfz40_3⟩ := zc4 BK297.out))
           go_roundg k1
           case measure => have := HK1.out; omega
           case rel => exact ⟨(wrap64 (x18_1 + 1)), (t302), (t303), (t304), (t307), (.slice Ao37 t304.length co37), (by first | rfl | (simp; done) | (simp [*]; done)), H', ⟨by have := HK1.out; omega⟩, ⟨rx (Kd.R_mono (Kd.R_far (p := ⟨gb297, 3, none⟩) (Kd.R_far (p := ⟨gb297, 2, none⟩) (Kd.R_far (p := ⟨gb297, 1, none⟩) (Kd.R_far (p := ⟨gb297, 0, none⟩) (Kd.R_far (p := ⟨gb309, 3, none⟩) (Kd.R_far (p := ⟨gb309, 2, none⟩) (Kd.R_far (p := ⟨gb309, 1, none⟩) (Kd.R_far (p := ⟨gb309, 0, none⟩) (Kd.R_types (Kd.R_types HO306.out BK309.out (by decide)) BK297.out (by decide)) (fun _ hk => hk.1.2) (.int .i64 t302)) (fun _ hk => hk.1.2) (.int .i64 t303)) (fun _ hk => hk.1.2) (.slice Ao37 t304.length co37)) (fun _ hk => hk.1.2) (.string t307)) (fun _ hk => hk.2) (.int .i64 t302)) (fun _ hk => hk.2) (.int .i64 t303)) (fun _ hk => hk.2) (.slice Ao37 t304.length co37)) (fun _ hk => hk.2) (.string t307)) (fun _ hk => trivial))⟩, ⟨zf2 BK295.out NB295_297.out NB295_309.out⟩, ⟨zf2 BK296.out NB296_297.out NB296_309.out⟩, ⟨by (with_reducible repeat (first | refine blk_drewN ?_ _ | refine blk_drew ?_ | refine blk_alloc ?_ _)); refine blk_put (cs := #[.int .i64 t302, .int .i64 t303, .slice Ao37 t304.length co37, .string x298003_1]) ?_ 3 _ rfl; (with_reducible repeat (first | refine blk_drewN ?_ _ | refine blk_drew ?_ | refine blk_alloc ?_ _)); refine blk_put (cs := #[.int .i64 t302, .int .i64 t303, u298002, .string x298003_1]) ?_ 2 _ rfl; (with_reducible repeat (first | refine blk_drewN ?_ _ | refine blk_drew ?_ | refine blk_alloc ?_ _)); refine blk_put (cs := #[.int .i64 t302, .int .i64 x298001_1, u298002, .string x298003_1]) ?_ 1 _ rfl; (with_reducible repeat (first | refine blk_drewN ?_ _ | refine blk_drew ?_ | refine blk_alloc ?_ _)); refine blk_put (cs := #[.int .i64 x298000_1, .int .i64 x298001_1, u298002, .string x298003_1]) ?_ 0 _ rfl; (with_reducible repeat (first | refine blk_drewN ?_ _ | refine blk_drew ?_ | refine blk_alloc ?_ _)); refine blk_far ?_ NB297_309.out _; (with_reducible repeat (first | refine blk_drewN ?_ _ | refine blk_drew ?_ | refine blk_alloc ?_ _)); refine blk_far ?_ NB297_309.out _; (with_reducible repeat (first | refine blk_drewN ?_ _ | refine blk_drew ?_ | refine blk_alloc ?_ _)); refine blk_far ?_ NB297_309.out _; (with_reducible repeat (first | refine blk_drewN ?_ _ | refine blk_drew ?_ | refine blk_alloc ?_ _)); refine blk_far ?_ NB297_309.out _; (with_reducible repeat (first | refine blk_drewN ?_ _ | refine blk_drew ?_ | refine blk_alloc ?_ _)); exact BK297.out⟩, ⟨zb5 HB.out GE295.out GE296.out GE297.out GE300.out GE309.out⟩⟩
          ·rw [if_neg c22] at H
           have c22b0 : decide (x298000_1 < t301) = false := decide_eq_false c22
           have c22b1 : decide (t301 ≤ x298000_1) = true := decide_eq_true (by omega)
           clear c22
           have H' := Aside0.mk H
           clear H
           have p299 : 0 ≤ (x18_1 : Int) := of_decide_eq_true (by first | (with_reducible assumption) | assumption)
           have q299 : x18_1 < (l0_0.length : Int) := of_decide_eq_true (by first | (with_reducible assumption) | assumption)
           obtain ⟨ad299, e299, hx299_0, hx299_1, hx299_2⟩ := at_T78 HR0_0.out x18_1 p299 q299
           cases e299
           replace hx299_0 := (HB.out.cell (World.block_lt_of_cell? w _ hx299_0)).trans hx299_0
           replace hx299_1 := (HB.out.cell (World.block_lt_of_cell? w _ hx299_1)).trans hx299_1
           replace hx299_2 := (HB.out.cell (World.block_lt_of_cell? w _ hx299_2)).trans hx299_2
           replace p299 := eq_true p299
           replace q299 := eq_true q299
           go_wp2_with (first | ((with_reducible refine gate_dst (N := 6) rfl ?_); refine box_event ?hg (N := 6) ?hd (cs := #[.string (⟨#[]⟩ : ByteArray), .string (⟨#[]⟩ : ByteArray), .int .i64 0]) (t := 78) ?hr ?_; (case hd => rfl); (case hg => rfl); (case hr => first | (go_simp; done) | (go_simp; rfl)); intro gb300 hg w41 hbox hb; have BK300 := am (hbox); have GW300 := zge hg (zb3 HB.out GE295.out GE296.out GE297.out); have GE300 := zge hg (zb3 HB.out GE295.out GE296.out GE297.out); have NB295_300 := znl hg (kx BK295.out); have NB300_295 := zng hg (kx BK295.out); have NB296_300 := znl hg (kx BK296.out); have NB300_296 := zng hg (kx BK296.out); have NB297_300 := znl hg (kx BK297.out); have NB300_297 := zng hg (kx BK297.out); replace HO_298002 := am (Kd.R_below (rx HO_298002.out) hb); replace BK295 := am (bb hb (kx BK295.out)); replace BK296 := am (bb hb (kx BK296.out)); replace BK297 := am (bb hb (kx BK297.out)); replace HB := am (below_step (zb3 HB.out GE295.out GE296.out GE297.out) hb); clear hb hbox hg; have hnb42 := NB300_295.out; have hnc42 := NB295_300.out; have hnb43 := NB300_296.out; have hnc43 := NB296_300.out; have hnb44 := NB300_297.out; have hnc44 := NB297_300.out; obtain ⟨hcz45_0, hcz45_1, hcz45_2, hfz45_0, hfz45_1, hfz45_2⟩ := zc3 BK300.out) | ((with_reducible refine gate_callee (f := 52) rfl ?_); refine goesL_ (some 24) rfl rfl Tryd.func52 (by kernel_rfl) rfl #[.string ((rd_T78 l0_0 x18_1).f0), .string (⟨#[115]⟩ : ByteArray), .int .i64 1000000] rfl zr ?_; (with_reducible refine (impl_numberOf.calls k1 ((rd_T78 l0_0 x18_1).f0) (⟨#[115]⟩ : ByteArray) 1000000 t301 _ A17.out ?laid).mono ?_); (case laid => exact LaidW.later HLW.out (zb4 HB.out GE295.out GE296.out GE297.out GE300.out)); rintro e w46 ⟨rfl, hb⟩; refine ⟨_, rfl, ?_⟩; replace HO_298002 := am (Kd.R_below (rx ((Kd.R_mono (Kd.R_far (p := ⟨gb300, 2, none⟩) (Kd.R_far (p := ⟨gb300, 1, none⟩) (Kd.R_far (p := ⟨gb300, 0, none⟩) (Kd.R_types HO_298002.out BK300.out (by decide)) (fun _ hk => hk.2) (.string ((rd_T78 l0_0 x18_1).f0))) (fun _ hk => hk.2) (.string ((rd_T78 l0_0 x18_1).f1))) (fun _ hk => hk.2) (.int .i64 ((rd_T78 l0_0 x18_1).f2))) (fun _ h_ => h_.1)))) hb); replace BK295 := am (bb hb (zf1 BK295.out NB295_300.out)); replace BK296 := am (bb hb (zf1 BK296.out NB296_300.out)); replace BK297 := am (bb hb (zf1 BK297.out NB297_300.out)); replace BK300 := am (blk_below (g := gb300) (o := .cells #[.string ((rd_T78 l0_0 x18_1).f0), .string ((rd_T78 l0_0 x18_1).f1), .int .i64 ((rd_T78 l0_0 x18_1).f2)] 78 (0, 0)) (by (with_reducible repeat (first | refine blk_drewN ?_ _ | refine blk_drew ?_ | refine blk_alloc ?_ _)); refine blk_put (cs := #[.string ((rd_T78 l0_0 x18_1).f0), .string ((rd_T78 l0_0 x18_1).f1), .int .i64 0]) ?_ 2 _ rfl; (with_reducible repeat (first | refine blk_drewN ?_ _ | refine blk_drew ?_ | refine blk_alloc ?_ _)); refine blk_put (cs := #[.string ((rd_T78 l0_0 x18_1).f0), .string (⟨#[]⟩ : ByteArray), .int .i64 0]) ?_ 1 _ rfl; (with_reducible repeat (first | refine blk_drewN ?_ _ | refine blk_drew ?_ | refine blk_alloc ?_ _)); refine blk_put (cs := #[.string (⟨#[]⟩ : ByteArray), .string (⟨#[]⟩ : ByteArray), .int .i64 0]) ?_ 0 _ rfl; (with_reducible repeat (first | refine blk_drewN ?_ _ | refine blk_drew ?_ | refine blk_alloc ?_ _)); exact BK300.out) hb); replace HB := am (below_step (zb4 HB.out GE295.out GE296.out GE297.out GE300.out) hb); (try clear hb); (try clear hb2); (try clear hk); (try clear hi); obtain ⟨hcz47_0, hcz47_1, hcz47_2, hfz47_0, hfz47_1, hfz47_2⟩ := zc3 BK300.out) | ((with_reducible refine gate_callee (f := 53) rfl ?_); refine goesL_ (some 28) rfl rfl Tryd.func53 (by kernel_rfl) rfl #[.string ((rd_T78 l0_0 x18_1).f1)] rfl zr ?_; (with_reducible refine (impl_ReadSnap.calls k1 ((rd_T78 l0_0 x18_1).f1) t302 t303 t304 t307 true _ A18.out).mono ?_); rintro e w48 ⟨v305, rfl, ho0, hb⟩; refine ⟨_, rfl, ?_⟩; have HO306 := am (Kd.R_lower (Kd.R_new' ho0 (Kd.R_lt (rx HO_298002.out))) (below_size (zb4 HB.out GE295.out GE296.out GE297.out GE300.out))); replace HO_298002 := am (Kd.R_elder' (rx HO_298002.out) (Kd.R_base ho0) hb); replace BK295 := am (bb hb (kx BK295.out)); replace BK296 := am (bb hb (kx BK296.out)); replace BK297 := am (bb hb (kx BK297.out)); replace BK300 := am (bb hb (kx BK300.out)); replace HB := am (below_step (zb4 HB.out GE295.out GE296.out GE297.out GE300.out) hb); (try clear hb); (try clear hb2); (try clear hk); (try clear hi); (try clear ho0)) | ((with_reducible refine gate_dst (N := 8) rfl ?_); refine box_event ?hg (N := 8) ?hd (cs := #[.int .i64 0, .int .i64 0, .slice none 0 0, .string (⟨#[]⟩ : ByteArray)]) (t := 48) ?hr ?_; (case hd => rfl); (case hg => rfl); (case hr => first | (go_simp; done) | (go_simp; rfl)); intro gb309 hg w49 hbox hb; have BK309 := am (hbox); have GW309 := zge hg (zb4 HB.out GE295.out GE296.out GE297.out GE300.out); have GE309 := zge hg (zb4 HB.out GE295.out GE296.out GE297.out GE300.out); have NB295_309 := znl hg (kx BK295.out); have NB309_295 := zng hg (kx BK295.out); have NB296_309 := znl hg (kx BK296.out); have NB309_296 := zng hg (kx BK296.out); have NB297_309 := znl hg (kx BK297.out); have NB309_297 := zng hg (kx BK297.out); have NB300_309 := znl hg (kx BK300.out); have NB309_300 := zng hg (kx BK300.out); replace HO_298002 := am (Kd.R_below (rx HO_298002.out) hb); replace HO306 := am (Kd.R_below (rx HO306.out) hb); replace BK295 := am (bb hb (kx BK295.out)); replace BK296 := am (bb hb (kx BK296.out)); replace BK297 := am (bb hb (kx BK297.out)); replace BK300 := am (bb hb (kx BK300.out)); replace HB := am (below_step (zb4 HB.out GE295.out GE296.out GE297.out GE300.out) hb); clear hb hbox hg; have hnb50 := NB309_295.out; have hnc50 := NB295_309.out; have hnb51 := NB309_296.out; have hnc51 := NB296_309.out; have hnb52 := NB309_297.out; have hnc52 := NB297_309.out; have hnb53 := NB309_300.out; have hnc53 := NB300_309.out; obtain ⟨hcz54_0, hcz54_1, hcz54_2, hcz54_3, hfz54_0, hfz54_1, hfz54_2, hfz54_3⟩ := zc4 BK309.out; obtain ⟨Ao55, co55, eo55⟩ := Kd.R_slice HO306.out; subst eo55; have hnb56 := NB297_295.out; have hnc56 := NB295_297.out; have hnb57 := NB297_296.out; have hnc57 := NB296_297.out; obtain ⟨hcz58_0, hcz58_1, hcz58_2, hcz58_3, hfz58_0, hfz58_1, hfz58_2, hfz58_3⟩ := zc4 BK297.out))
           go_roundg k1
           case measure => have := HK1.out; omega
           case rel => exact ⟨(wrap64 (x18_1 + 1)), (x298000_1), (x298001_1), (x298002_1), (x298003_1), (u298002), (by first | rfl | (simp; done) | (simp [*]; done)), H', ⟨by have := HK1.out; omega⟩, ⟨rx (Kd.R_mono (Kd.R_far (p := ⟨gb309, 3, none⟩) (Kd.R_far (p := ⟨gb309, 2, none⟩) (Kd.R_far (p := ⟨gb309, 1, none⟩) (Kd.R_far (p := ⟨gb309, 0, none⟩) (Kd.R_types HO_298002.out BK309.out (by decide)) (fun _ hk => hk.2) (.int .i64 t302)) (fun _ hk => hk.2) (.int .i64 t303)) (fun _ hk => hk.2) (.slice Ao55 t304.length co55)) (fun _ hk => hk.2) (.string t307)) (fun _ hk => trivial))⟩, ⟨zf1 BK295.out NB295_309.out⟩, ⟨zf1 BK296.out NB296_309.out⟩, ⟨zf1 BK297.out NB297_309.out⟩, ⟨zb5 HB.out GE295.out GE296.out GE297.out GE300.out GE309.out⟩⟩
         ·rw [if_neg c21] at H
          have c21b0 : (t302 == t301) = false := beq_eq_false_iff_ne.mpr c21
          have c21b1 : (t302 != t301) = true := bne_iff_ne.mpr c21
          have H' := Aside0.mk H
          clear H
          have p299 : 0 ≤ (x18_1 : Int) := of_decide_eq_true (by first | (with_reducible assumption) | assumption)
          have q299 : x18_1 < (l0_0.length : Int) := of_decide_eq_true (by first | (with_reducible assumption) | assumption)
          obtain ⟨ad299, e299, hx299_0, hx299_1, hx299_2⟩ := at_T78 HR0_0.out x18_1 p299 q299
          cases e299
          replace hx299_0 := (HB.out.cell (World.block_lt_of_cell? w _ hx299_0)).trans hx299_0
          replace hx299_1 := (HB.out.cell (World.block_lt_of_cell? w _ hx299_1)).trans hx299_1
          replace hx299_2 := (HB.out.cell (World.block_lt_of_cell? w _ hx299_2)).trans hx299_2
          replace p299 := eq_true p299
          replace q299 := eq_true q299
          go_wp2_with (first | ((with_reducible refine gate_dst (N := 6) rfl ?_); refine box_event ?hg (N := 6) ?hd (cs := #[.string (⟨#[]⟩ : ByteArray), .string (⟨#[]⟩ : ByteArray), .int .i64 0]) (t := 78) ?hr ?_; (case hd => rfl); (case hg => rfl); (case hr => first | (go_simp; done) | (go_simp; rfl)); intro gb300 hg w59 hbox hb; have BK300 := am (hbox); have GW300 := zge hg (zb3 HB.out GE295.out GE296.out GE297.out); have GE300 := zge hg (zb3 HB.out GE295.out GE296.out GE297.out); have NB295_300 := znl hg (kx BK295.out); have NB300_295 := zng hg (kx BK295.out); have NB296_300 := znl hg (kx BK296.out); have NB300_296 := zng hg (kx BK296.out); have NB297_300 := znl hg (kx BK297.out); have NB300_297 := zng hg (kx BK297.out); replace HO_298002 := am (Kd.R_below (rx HO_298002.out) hb); replace BK295 := am (bb hb (kx BK295.out)); replace BK296 := am (bb hb (kx BK296.out)); replace BK297 := am (bb hb (kx BK297.out)); replace HB := am (below_step (zb3 HB.out GE295.out GE296.out GE297.out) hb); clear hb hbox hg; have hnb60 := NB300_295.out; have hnc60 := NB295_300.out; have hnb61 := NB300_296.out; have hnc61 := NB296_300.out; have hnb62 := NB300_297.out; have hnc62 := NB297_300.out; obtain ⟨hcz63_0, hcz63_1, hcz63_2, hfz63_0, hfz63_1, hfz63_2⟩ := zc3 BK300.out) | ((with_reducible refine gate_callee (f := 52) rfl ?_); refine goesL_ (some 24) rfl rfl Tryd.func52 (by kernel_rfl) rfl #[.string ((rd_T78 l0_0 x18_1).f0), .string (⟨#[115]⟩ : ByteArray), .int .i64 1000000] rfl zr ?_; (with_reducible refine (impl_numberOf.calls k1 ((rd_T78 l0_0 x18_1).f0) (⟨#[115]⟩ : ByteArray) 1000000 t301 _ A17.out ?laid).mono ?_); (case laid => exact LaidW.later HLW.out (zb4 HB.out GE295.out GE296.out GE297.out GE300.out)); rintro e w64 ⟨rfl, hb⟩; refine ⟨_, rfl, ?_⟩; replace HO_298002 := am (Kd.R_below (rx ((Kd.R_mono (Kd.R_far (p := ⟨gb300, 2, none⟩) (Kd.R_far (p := ⟨gb300, 1, none⟩) (Kd.R_far (p := ⟨gb300, 0, none⟩) (Kd.R_types HO_298002.out BK300.out (by decide)) (fun _ hk => hk.2) (.string ((rd_T78 l0_0 x18_1).f0))) (fun _ hk => hk.2) (.string ((rd_T78 l0_0 x18_1).f1))) (fun _ hk => hk.2) (.int .i64 ((rd_T78 l0_0 x18_1).f2))) (fun _ h_ => h_.1)))) hb); replace BK295 := am (bb hb (zf1 BK295.out NB295_300.out)); replace BK296 := am (bb hb (zf1 BK296.out NB296_300.out)); replace BK297 := am (bb hb (zf1 BK297.out NB297_300.out)); replace BK300 := am (blk_below (g := gb300) (o := .cells #[.string ((rd_T78 l0_0 x18_1).f0), .string ((rd_T78 l0_0 x18_1).f1), .int .i64 ((rd_T78 l0_0 x18_1).f2)] 78 (0, 0)) (by (with_reducible repeat (first | refine blk_drewN ?_ _ | refine blk_drew ?_ | refine blk_alloc ?_ _)); refine blk_put (cs := #[.string ((rd_T78 l0_0 x18_1).f0), .string ((rd_T78 l0_0 x18_1).f1), .int .i64 0]) ?_ 2 _ rfl; (with_reducible repeat (first | refine blk_drewN ?_ _ | refine blk_drew ?_ | refine blk_alloc ?_ _)); refine blk_put (cs := #[.string ((rd_T78 l0_0 x18_1).f0), .string (⟨#[]⟩ : ByteArray), .int .i64 0]) ?_ 1 _ rfl; (with_reducible repeat (first | refine blk_drewN ?_ _ | refine blk_drew ?_ | refine blk_alloc ?_ _)); refine blk_put (cs := #[.string (⟨#[]⟩ : ByteArray), .string (⟨#[]⟩ : ByteArray), .int .i64 0]) ?_ 0 _ rfl; (with_reducible repeat (first | refine blk_drewN ?_ _ | refine blk_drew ?_ | refine blk_alloc ?_ _)); exact BK300.out) hb); replace HB := am (below_step (zb4 HB.out GE295.out GE296.out GE297.out GE300.out) hb); (try clear hb); (try clear hb2); (try clear hk); (try clear hi); obtain ⟨hcz65_0, hcz65_1, hcz65_2, hfz65_0, hfz65_1, hfz65_2⟩ := zc3 BK300.out) | ((with_reducible refine gate_callee (f := 53) rfl ?_); refine goesL_ (some 28) rfl rfl Tryd.func53 (by kernel_rfl) rfl #[.string ((rd_T78 l0_0 x18_1).f1)] rfl zr ?_; (with_reducible refine (impl_ReadSnap.calls k1 ((rd_T78 l0_0 x18_1).f1) t302 t303 t304 t307 true _ A18.out).mono ?_); rintro e w66 ⟨v305, rfl, ho0, hb⟩; refine ⟨_, rfl, ?_⟩; have HO306 := am (Kd.R_lower (Kd.R_new' ho0 (Kd.R_lt (rx HO_298002.out))) (below_size (zb4 HB.out GE295.out GE296.out GE297.out GE300.out))); replace HO_298002 := am (Kd.R_elder' (rx HO_298002.out) (Kd.R_base ho0) hb); replace BK295 := am (bb hb (kx BK295.out)); replace BK296 := am (bb hb (kx BK296.out)); replace BK297 := am (bb hb (kx BK297.out)); replace BK300 := am (bb hb (kx BK300.out)); replace HB := am (below_step (zb4 HB.out GE295.out GE296.out GE297.out GE300.out) hb); (try clear hb); (try clear hb2); (try clear hk); (try clear hi); (try clear ho0)) | ((with_reducible refine gate_dst (N := 8) rfl ?_); refine box_event ?hg (N := 8) ?hd (cs := #[.int .i64 0, .int .i64 0, .slice none 0 0, .string (⟨#[]⟩ : ByteArray)]) (t := 48) ?hr ?_; (case hd => rfl); (case hg => rfl); (case hr => first | (go_simp; done) | (go_simp; rfl)); intro gb309 hg w67 hbox hb; have BK309 := am (hbox); have GW309 := zge hg (zb4 HB.out GE295.out GE296.out GE297.out GE300.out); have GE309 := zge hg (zb4 HB.out GE295.out GE296.out GE297.out GE300.out); have NB295_309 := znl hg (kx BK295.out); have NB309_295 := zng hg (kx BK295.out); have NB296_309 := znl hg (kx BK296.out); have NB309_296 := zng hg (kx BK296.out); have NB297_309 := znl hg (kx BK297.out); have NB309_297 := zng hg (kx BK297.out); have NB300_309 := znl hg (kx BK300.out); have NB309_300 := zng hg (kx BK300.out); replace HO_298002 := am (Kd.R_below (rx HO_298002.out) hb); replace HO306 := am (Kd.R_below (rx HO306.out) hb); replace BK295 := am (bb hb (kx BK295.out)); replace BK296 := am (bb hb (kx BK296.out)); replace BK297 := am (bb hb (kx BK297.out)); replace BK300 := am (bb hb (kx BK300.out)); replace HB := am (below_step (zb4 HB.out GE295.out GE296.out GE297.out GE300.out) hb); clear hb hbox hg; have hnb68 := NB309_295.out; have hnc68 := NB295_309.out; have hnb69 := NB309_296.out; have hnc69 := NB296_309.out; have hnb70 := NB309_297.out; have hnc70 := NB297_309.out; have hnb71 := NB309_300.out; have hnc71 := NB300_309.out; obtain ⟨hcz72_0, hcz72_1, hcz72_2, hcz72_3, hfz72_0, hfz72_1, hfz72_2, hfz72_3⟩ := zc4 BK309.out; obtain ⟨Ao73, co73, eo73⟩ := Kd.R_slice HO306.out; subst eo73))
          go_roundg k1
          case measure => have := HK1.out; omega
          case rel => exact ⟨(wrap64 (x18_1 + 1)), (x298000_1), (x298001_1), (x298002_1), (x298003_1), (u298002), (by first | rfl | (simp; done) | (simp [*]; done)), H', ⟨by have := HK1.out; omega⟩, ⟨rx (Kd.R_mono (Kd.R_far (p := ⟨gb309, 3, none⟩) (Kd.R_far (p := ⟨gb309, 2, none⟩) (Kd.R_far (p := ⟨gb309, 1, none⟩) (Kd.R_far (p := ⟨gb309, 0, none⟩) (Kd.R_types HO_298002.out BK309.out (by decide)) (fun _ hk => hk.2) (.int .i64 t302)) (fun _ hk => hk.2) (.int .i64 t303)) (fun _ hk => hk.2) (.slice Ao73 t304.length co73)) (fun _ hk => hk.2) (.string t307)) (fun _ hk => trivial))⟩, ⟨zf1 BK295.out NB295_309.out⟩, ⟨zf1 BK296.out NB296_309.out⟩, ⟨zf1 BK297.out NB297_309.out⟩, ⟨zb5 HB.out GE295.out GE296.out GE297.out GE300.out GE309.out⟩⟩
        ·replace c20 := Bool.eq_false_iff.mpr c20
         subst c20
         have H1 : (impl_NewestSnap.l0 k1 l0_0 (l0_0.length : Int) (wrap64 (x18_1 + 1)) x298000_1 x298001_1 x298002_1 x298003_1) = some (r1, r2, r3, r4, r5) := by rw [if_neg (show ¬ (false = true) by decide)] at H; exact H
         clear H
         have H := H1
         clear H1
         have H' := Aside0.mk H
         clear H
         have p299 : 0 ≤ (x18_1 : Int) := of_decide_eq_true (by first | (with_reducible assumption) | assumption)
         have q299 : x18_1 < (l0_0.length : Int) := of_decide_eq_true (by first | (with_reducible assumption) | assumption)
         obtain ⟨ad299, e299, hx299_0, hx299_1, hx299_2⟩ := at_T78 HR0_0.out x18_1 p299 q299
         cases e299
         replace hx299_0 := (HB.out.cell (World.block_lt_of_cell? w _ hx299_0)).trans hx299_0
         replace hx299_1 := (HB.out.cell (World.block_lt_of_cell? w _ hx299_1)).trans hx299_1
         replace hx299_2 := (HB.out.cell (World.block_lt_of_cell? w _ hx299_2)).trans hx299_2
         replace p299 := eq_true p299
         replace q299 := eq_true q299
         go_wp2_with (first | ((with_reducible refine gate_dst (N := 6) rfl ?_); refine box_event ?hg (N := 6) ?hd (cs := #[.string (⟨#[]⟩ : ByteArray), .string (⟨#[]⟩ : ByteArray), .int .i64 0]) (t := 78) ?hr ?_; (case hd => rfl); (case hg => rfl); (case hr => first | (go_simp; done) | (go_simp; rfl)); intro gb300 hg w74 hbox hb; have BK300 := am (hbox); have GW300 := zge hg (zb3 HB.out GE295.out GE296.out GE297.out); have GE300 := zge hg (zb3 HB.out GE295.out GE296.out GE297.out); have NB295_300 := znl hg (kx BK295.out); have NB300_295 := zng hg (kx BK295.out); have NB296_300 := znl hg (kx BK296.out); have NB300_296 := zng hg (kx BK296.out); have NB297_300 := znl hg (kx BK297.out); have NB300_297 := zng hg (kx BK297.out); replace HO_298002 := am (Kd.R_below (rx HO_298002.out) hb); replace BK295 := am (bb hb (kx BK295.out)); replace BK296 := am (bb hb (kx BK296.out)); replace BK297 := am (bb hb (kx BK297.out)); replace HB := am (below_step (zb3 HB.out GE295.out GE296.out GE297.out) hb); clear hb hbox hg; have hnb75 := NB300_295.out; have hnc75 := NB295_300.out; have hnb76 := NB300_296.out; have hnc76 := NB296_300.out; have hnb77 := NB300_297.out; have hnc77 := NB297_300.out; obtain ⟨hcz78_0, hcz78_1, hcz78_2, hfz78_0, hfz78_1, hfz78_2⟩ := zc3 BK300.out) | ((with_reducible refine gate_callee (f := 52) rfl ?_); refine goesL_ (some 24) rfl rfl Tryd.func52 (by kernel_rfl) rfl #[.string ((rd_T78 l0_0 x18_1).f0), .string (⟨#[115]⟩ : ByteArray), .int .i64 1000000] rfl zr ?_; (with_reducible refine (impl_numberOf.calls k1 ((rd_T78 l0_0 x18_1).f0) (⟨#[115]⟩ : ByteArray) 1000000 t301 _ A17.out ?laid).mono ?_); (case laid => exact LaidW.later HLW.out (zb4 HB.out GE295.out GE296.out GE297.out GE300.out)); rintro e w79 ⟨rfl, hb⟩; refine ⟨_, rfl, ?_⟩; replace HO_298002 := am (Kd.R_below (rx ((Kd.R_mono (Kd.R_far (p := ⟨gb300, 2, none⟩) (Kd.R_far (p := ⟨gb300, 1, none⟩) (Kd.R_far (p := ⟨gb300, 0, none⟩) (Kd.R_types HO_298002.out BK300.out (by decide)) (fun _ hk => hk.2) (.string ((rd_T78 l0_0 x18_1).f0))) (fun _ hk => hk.2) (.string ((rd_T78 l0_0 x18_1).f1))) (fun _ hk => hk.2) (.int .i64 ((rd_T78 l0_0 x18_1).f2))) (fun _ h_ => h_.1)))) hb); replace BK295 := am (bb hb (zf1 BK295.out NB295_300.out)); replace BK296 := am (bb hb (zf1 BK296.out NB296_300.out)); replace BK297 := am (bb hb (zf1 BK297.out NB297_300.out)); replace BK300 := am (blk_below (g := gb300) (o := .cells #[.string ((rd_T78 l0_0 x18_1).f0), .string ((rd_T78 l0_0 x18_1).f1), .int .i64 ((rd_T78 l0_0 x18_1).f2)] 78 (0, 0)) (by (with_reducible repeat (first | refine blk_drewN ?_ _ | refine blk_drew ?_ | refine blk_alloc ?_ _)); refine blk_put (cs := #[.string ((rd_T78 l0_0 x18_1).f0), .string ((rd_T78 l0_0 x18_1).f1), .int .i64 0]) ?_ 2 _ rfl; (with_reducible repeat (first | refine blk_drewN ?_ _ | refine blk_drew ?_ | refine blk_alloc ?_ _)); refine blk_put (cs := #[.string ((rd_T78 l0_0 x18_1).f0), .string (⟨#[]⟩ : ByteArray), .int .i64 0]) ?_ 1 _ rfl; (with_reducible repeat (first | refine blk_drewN ?_ _ | refine blk_drew ?_ | refine blk_alloc ?_ _)); refine blk_put (cs := #[.string (⟨#[]⟩ : ByteArray), .string (⟨#[]⟩ : ByteArray), .int .i64 0]) ?_ 0 _ rfl; (with_reducible repeat (first | refine blk_drewN ?_ _ | refine blk_drew ?_ | refine blk_alloc ?_ _)); exact BK300.out) hb); replace HB := am (below_step (zb4 HB.out GE295.out GE296.out GE297.out GE300.out) hb); (try clear hb); (try clear hb2); (try clear hk); (try clear hi); obtain ⟨hcz80_0, hcz80_1, hcz80_2, hfz80_0, hfz80_1, hfz80_2⟩ := zc3 BK300.out) | ((with_reducible refine gate_callee (f := 53) rfl ?_); refine goesL_ (some 28) rfl rfl Tryd.func53 (by kernel_rfl) rfl #[.string ((rd_T78 l0_0 x18_1).f1)] rfl zr ?_; (with_reducible refine (impl_ReadSnap.calls k1 ((rd_T78 l0_0 x18_1).f1) t302 t303 t304 t307 false _ A18.out).mono ?_); rintro e w81 ⟨v305, rfl, ho0, hb⟩; refine ⟨_, rfl, ?_⟩; have HO306 := am (Kd.R_lower (Kd.R_new' ho0 (Kd.R_lt (rx HO_298002.out))) (below_size (zb4 HB.out GE295.out GE296.out GE297.out GE300.out))); replace HO_298002 := am (Kd.R_elder' (rx HO_298002.out) (Kd.R_base ho0) hb); replace BK295 := am (bb hb (kx BK295.out)); replace BK296 := am (bb hb (kx BK296.out)); replace BK297 := am (bb hb (kx BK297.out)); replace BK300 := am (bb hb (kx BK300.out)); replace HB := am (below_step (zb4 HB.out GE295.out GE296.out GE297.out GE300.out) hb); (try clear hb); (try clear hb2); (try clear hk); (try clear hi); (try clear ho0)) | ((with_reducible refine gate_dst (N := 8) rfl ?_); refine box_event ?hg (N := 8) ?hd (cs := #[.int .i64 0, .int .i64 0, .slice none 0 0, .string (⟨#[]⟩ : ByteArray)]) (t := 48) ?hr ?_; (case hd => rfl); (case hg => rfl); (case hr => first | (go_simp; done) | (go_simp; rfl)); intro gb309 hg w82 hbox hb; have BK309 := am (hbox); have GW309 := zge hg (zb4 HB.out GE295.out GE296.out GE297.out GE300.out); have GE309 := zge hg (zb4 HB.out GE295.out GE296.out GE297.out GE300.out); have NB295_309 := znl hg (kx BK295.out); have NB309_295 := zng hg (kx BK295.out); have NB296_309 := znl hg (kx BK296.out); have NB309_296 := zng hg (kx BK296.out); have NB297_309 := znl hg (kx BK297.out); have NB309_297 := zng hg (kx BK297.out); have NB300_309 := znl hg (kx BK300.out); have NB309_300 := zng hg (kx BK300.out); replace HO_298002 := am (Kd.R_below (rx HO_298002.out) hb); replace HO306 := am (Kd.R_below (rx HO306.out) hb); replace BK295 := am (bb hb (kx BK295.out)); replace BK296 := am (bb hb (kx BK296.out)); replace BK297 := am (bb hb (kx BK297.out)); replace BK300 := am (bb hb (kx BK300.out)); replace HB := am (below_step (zb4 HB.out GE295.out GE296.out GE297.out GE300.out) hb); clear hb hbox hg; have hnb83 := NB309_295.out; have hnc83 := NB295_309.out; have hnb84 := NB309_296.out; have hnc84 := NB296_309.out; have hnb85 := NB309_297.out; have hnc85 := NB297_309.out; have hnb86 := NB309_300.out; have hnc86 := NB300_309.out; obtain ⟨hcz87_0, hcz87_1, hcz87_2, hcz87_3, hfz87_0, hfz87_1, hfz87_2, hfz87_3⟩ := zc4 BK309.out; obtain ⟨Ao88, co88, eo88⟩ := Kd.R_slice HO306.out; subst eo88))
         go_roundg k1
         case measure => have := HK1.out; omega
         case rel => exact ⟨(wrap64 (x18_1 + 1)), (x298000_1), (x298001_1), (x298002_1), (x298003_1), (u298002), (by first | rfl | (simp; done) | (simp [*]; done)), H', ⟨by have := HK1.out; omega⟩, ⟨rx (Kd.R_mono (Kd.R_far (p := ⟨gb309, 3, none⟩) (Kd.R_far (p := ⟨gb309, 2, none⟩) (Kd.R_far (p := ⟨gb309, 1, none⟩) (Kd.R_far (p := ⟨gb309, 0, none⟩) (Kd.R_types HO_298002.out BK309.out (by decide)) (fun _ hk => hk.2) (.int .i64 t302)) (fun _ hk => hk.2) (.int .i64 t303)) (fun _ hk => hk.2) (.slice Ao88 t304.length co88)) (fun _ hk => hk.2) (.string t307)) (fun _ hk => trivial))⟩, ⟨zf1 BK295.out NB295_309.out⟩, ⟨zf1 BK296.out NB296_309.out⟩, ⟨zf1 BK297.out NB297_309.out⟩, ⟨zb5 HB.out GE295.out GE296.out GE297.out GE300.out GE309.out⟩⟩
       ·rw [if_neg c19] at H
        have c19b0 : decide (0 ≤ t301) = false := decide_eq_false c19
        clear c19
        have H' := Aside0.mk H
        clear H
        have p299 : 0 ≤ (x18_1 : Int) := of_decide_eq_true (by first | (with_reducible assumption) | assumption)
        have q299 : x18_1 < (l0_0.length : Int) := of_decide_eq_true (by first | (with_reducible assumption) | assumption)
        obtain ⟨ad299, e299, hx299_0, hx299_1, hx299_2⟩ := at_T78 HR0_0.out x18_1 p299 q299
        cases e299
        replace hx299_0 := (HB.out.cell (World.block_lt_of_cell? w _ hx299_0)).trans hx299_0
        replace hx299_1 := (HB.out.cell (World.block_lt_of_cell? w _ hx299_1)).trans hx299_1
        replace hx299_2 := (HB.out.cell (World.block_lt_of_cell? w _ hx299_2)).trans hx299_2
        replace p299 := eq_true p299
        replace q299 := eq_true q299
        go_wp2_with (first | ((with_reducible refine gate_dst (N := 6) rfl ?_); refine box_event ?hg (N := 6) ?hd (cs := #[.string (⟨#[]⟩ : ByteArray), .string (⟨#[]⟩ : ByteArray), .int .i64 0]) (t := 78) ?hr ?_; (case hd => rfl); (case hg => rfl); (case hr => first | (go_simp; done) | (go_simp; rfl)); intro gb300 hg w89 hbox hb; have BK300 := am (hbox); have GW300 := zge hg (zb3 HB.out GE295.out GE296.out GE297.out); have GE300 := zge hg (zb3 HB.out GE295.out GE296.out GE297.out); have NB295_300 := znl hg (kx BK295.out); have NB300_295 := zng hg (kx BK295.out); have NB296_300 := znl hg (kx BK296.out); have NB300_296 := zng hg (kx BK296.out); have NB297_300 := znl hg (kx BK297.out); have NB300_297 := zng hg (kx BK297.out); replace HO_298002 := am (Kd.R_below (rx HO_298002.out) hb); replace BK295 := am (bb hb (kx BK295.out)); replace BK296 := am (bb hb (kx BK296.out)); replace BK297 := am (bb hb (kx BK297.out)); replace HB := am (below_step (zb3 HB.out GE295.out GE296.out GE297.out) hb); clear hb hbox hg; have hnb90 := NB300_295.out; have hnc90 := NB295_300.out; have hnb91 := NB300_296.out; have hnc91 := NB296_300.out; have hnb92 := NB300_297.out; have hnc92 := NB297_300.out; obtain ⟨hcz93_0, hcz93_1, hcz93_2, hfz93_0, hfz93_1, hfz93_2⟩ := zc3 BK300.out) | ((with_reducible refine gate_callee (f := 52) rfl ?_); refine goesL_ (some 24) rfl rfl Tryd.func52 (by kernel_rfl) rfl #[.string ((rd_T78 l0_0 x18_1).f0), .string (⟨#[115]⟩ : ByteArray), .int .i64 1000000] rfl zr ?_; (with_reducible refine (impl_numberOf.calls k1 ((rd_T78 l0_0 x18_1).f0) (⟨#[115]⟩ : ByteArray) 1000000 t301 _ A17.out ?laid).mono ?_); (case laid => exact LaidW.later HLW.out (zb4 HB.out GE295.out GE296.out GE297.out GE300.out)); rintro e w94 ⟨rfl, hb⟩; refine ⟨_, rfl, ?_⟩; replace HO_298002 := am (Kd.R_below (rx ((Kd.R_mono (Kd.R_far (p := ⟨gb300, 2, none⟩) (Kd.R_far (p := ⟨gb300, 1, none⟩) (Kd.R_far (p := ⟨gb300, 0, none⟩) (Kd.R_types HO_298002.out BK300.out (by decide)) (fun _ hk => hk.2) (.string ((rd_T78 l0_0 x18_1).f0))) (fun _ hk => hk.2) (.string ((rd_T78 l0_0 x18_1).f1))) (fun _ hk => hk.2) (.int .i64 ((rd_T78 l0_0 x18_1).f2))) (fun _ h_ => h_.1)))) hb); replace BK295 := am (bb hb (zf1 BK295.out NB295_300.out)); replace BK296 := am (bb hb (zf1 BK296.out NB296_300.out)); replace BK297 := am (bb hb (zf1 BK297.out NB297_300.out)); replace BK300 := am (blk_below (g := gb300) (o := .cells #[.string ((rd_T78 l0_0 x18_1).f0), .string ((rd_T78 l0_0 x18_1).f1), .int .i64 ((rd_T78 l0_0 x18_1).f2)] 78 (0, 0)) (by (with_reducible repeat (first | refine blk_drewN ?_ _ | refine blk_drew ?_ | refine blk_alloc ?_ _)); refine blk_put (cs := #[.string ((rd_T78 l0_0 x18_1).f0), .string ((rd_T78 l0_0 x18_1).f1), .int .i64 0]) ?_ 2 _ rfl; (with_reducible repeat (first | refine blk_drewN ?_ _ | refine blk_drew ?_ | refine blk_alloc ?_ _)); refine blk_put (cs := #[.string ((rd_T78 l0_0 x18_1).f0), .string (⟨#[]⟩ : ByteArray), .int .i64 0]) ?_ 1 _ rfl; (with_reducible repeat (first | refine blk_drewN ?_ _ | refine blk_drew ?_ | refine blk_alloc ?_ _)); refine blk_put (cs := #[.string (⟨#[]⟩ : ByteArray), .string (⟨#[]⟩ : ByteArray), .int .i64 0]) ?_ 0 _ rfl; (with_reducible repeat (first | refine blk_drewN ?_ _ | refine blk_drew ?_ | refine blk_alloc ?_ _)); exact BK300.out) hb); replace HB := am (below_step (zb4 HB.out GE295.out GE296.out GE297.out GE300.out) hb); (try clear hb); (try clear hb2); (try clear hk); (try clear hi); obtain ⟨hcz95_0, hcz95_1, hcz95_2, hfz95_0, hfz95_1, hfz95_2⟩ := zc3 BK300.out) | ((with_reducible refine gate_callee (f := 53) rfl ?_); refine goesL_ (some 28) rfl rfl Tryd.func53 (by kernel_rfl) rfl #[.string ((rd_T78 l0_0 x18_1).f1)] rfl zr ?_; (with_reducible refine (impl_ReadSnap.calls k1 ((rd_T78 l0_0 x18_1).f1) t302 t303 t304 t307 t308 _ A18.out).mono ?_); rintro e w96 ⟨v305, rfl, ho0, hb⟩; refine ⟨_, rfl, ?_⟩; have HO306 := am (Kd.R_lower (Kd.R_new' ho0 (Kd.R_lt (rx HO_298002.out))) (below_size (zb4 HB.out GE295.out GE296.out GE297.out GE300.out))); replace HO_298002 := am (Kd.R_elder' (rx HO_298002.out) (Kd.R_base ho0) hb); replace BK295 := am (bb hb (kx BK295.out)); replace BK296 := am (bb hb (kx BK296.out)); replace BK297 := am (bb hb (kx BK297.out)); replace BK300 := am (bb hb (kx BK300.out)); replace HB := am (below_step (zb4 HB.out GE295.out GE296.out GE297.out GE300.out) hb); (try clear hb); (try clear hb2); (try clear hk); (try clear hi); (try clear ho0)) | ((with_reducible refine gate_dst (N := 8) rfl ?_); refine box_event ?hg (N := 8) ?hd (cs := #[.int .i64 0, .int .i64 0, .slice none 0 0, .string (⟨#[]⟩ : ByteArray)]) (t := 48) ?hr ?_; (case hd => rfl); (case hg => rfl); (case hr => first | (go_simp; done) | (go_simp; rfl)); intro gb309 hg w97 hbox hb; have BK309 := am (hbox); have GW309 := zge hg (zb4 HB.out GE295.out GE296.out GE297.out GE300.out); have GE309 := zge hg (zb4 HB.out GE295.out GE296.out GE297.out GE300.out); have NB295_309 := znl hg (kx BK295.out); have NB309_295 := zng hg (kx BK295.out); have NB296_309 := znl hg (kx BK296.out); have NB309_296 := zng hg (kx BK296.out); have NB297_309 := znl hg (kx BK297.out); have NB309_297 := zng hg (kx BK297.out); have NB300_309 := znl hg (kx BK300.out); have NB309_300 := zng hg (kx BK300.out); replace HO_298002 := am (Kd.R_below (rx HO_298002.out) hb); replace HO306 := am (Kd.R_below (rx HO306.out) hb); replace BK295 := am (bb hb (kx BK295.out)); replace BK296 := am (bb hb (kx BK296.out)); replace BK297 := am (bb hb (kx BK297.out)); replace BK300 := am (bb hb (kx BK300.out)); replace HB := am (below_step (zb4 HB.out GE295.out GE296.out GE297.out GE300.out) hb); clear hb hbox hg; have hnb98 := NB309_295.out; have hnc98 := NB295_309.out; have hnb99 := NB309_296.out; have hnc99 := NB296_309.out; have hnb100 := NB309_297.out; have hnc100 := NB297_309.out; have hnb101 := NB309_300.out; have hnc101 := NB300_309.out; obtain ⟨hcz102_0, hcz102_1, hcz102_2, hcz102_3, hfz102_0, hfz102_1, hfz102_2, hfz102_3⟩ := zc4 BK309.out; obtain ⟨Ao103, co103, eo103⟩ := Kd.R_slice HO306.out; subst eo103))
        go_roundg k1
        case measure => have := HK1.out; omega
        case rel => exact ⟨(wrap64 (x18_1 + 1)), (x298000_1), (x298001_1), (x298002_1), (x298003_1), (u298002), (by first | rfl | (simp; done) | (simp [*]; done)), H', ⟨by have := HK1.out; omega⟩, ⟨rx (Kd.R_mono (Kd.R_far (p := ⟨gb309, 3, none⟩) (Kd.R_far (p := ⟨gb309, 2, none⟩) (Kd.R_far (p := ⟨gb309, 1, none⟩) (Kd.R_far (p := ⟨gb309, 0, none⟩) (Kd.R_types HO_298002.out BK309.out (by decide)) (fun _ hk => hk.2) (.int .i64 t302)) (fun _ hk => hk.2) (.int .i64 t303)) (fun _ hk => hk.2) (.slice Ao103 t304.length co103)) (fun _ hk => hk.2) (.string t307)) (fun _ hk => trivial))⟩, ⟨zf1 BK295.out NB295_309.out⟩, ⟨zf1 BK296.out NB296_309.out⟩, ⟨zf1 BK297.out NB297_309.out⟩, ⟨zb5 HB.out GE295.out GE296.out GE297.out GE300.out GE309.out⟩⟩
      ·rw [if_neg c16] at H
       exact absurd H (by simp)
     ·rw [if_neg c15] at H
      exact absurd H (by simp)
    ·rw [if_neg c14] at H
     have c14b0 : decide (x18_1 < (l0_0.length : Int)) = false := decide_eq_false c14
     have c14b1 : decide ((l0_0.length : Int) ≤ x18_1) = true := decide_eq_true (by omega)
     clear c14
     by_cases c104 : x298000_1 < 0
     ·rw [if_pos c104] at H
      have c104b0 : decide (x298000_1 < 0) = true := decide_eq_true c104
      clear c104
      simp only [Option.some.injEq, Prod.mk.injEq] at H
      obtain ⟨rfl, rfl, rfl, rfl, rfl⟩ := H
      have hnb105 := NB297_295.out
      have hnc105 := NB295_297.out
      have hnb106 := NB297_296.out
      have hnc106 := NB296_297.out
      obtain ⟨hcz107_0, hcz107_1, hcz107_2, hcz107_3, hfz107_0, hfz107_1, hfz107_2, hfz107_3⟩ := zc4 BK297.out
      have hnb108 := NB296_295.out
      have hnc108 := NB295_296.out
      obtain ⟨hcz109_0, hcz109_1, hcz109_2, hcz109_3, hfz109_0, hfz109_1, hfz109_2, hfz109_3⟩ := zc4 BK296.out
      go_wp2
      refine bodyPost_ret (results_ct rfl _ _ gb296 48 #[.int .i64 0, .int .i64 0, .slice none 0 0, .string (⟨#[]⟩ : ByteArray)] (0, 0) _ rfl (by (with_reducible repeat (first | refine blk_drewN ?_ _ | refine blk_drew ?_ | refine blk_alloc ?_ _)); refine blk_put (cs := #[.int .i64 0, .int .i64 0, .slice none 0 0, .string (⟨#[]⟩ : ByteArray)]) ?_ 3 _ rfl; (with_reducible repeat (first | refine blk_drewN ?_ _ | refine blk_drew ?_ | refine blk_alloc ?_ _)); refine blk_put (cs := #[.int .i64 0, .int .i64 0, .slice none 0 0, .string (⟨#[]⟩ : ByteArray)]) ?_ 2 _ rfl; (with_reducible repeat (first | refine blk_drewN ?_ _ | refine blk_drew ?_ | refine blk_alloc ?_ _)); refine blk_put (cs := #[.int .i64 0, .int .i64 0, .slice none 0 0, .string (⟨#[]⟩ : ByteArray)]) ?_ 1 _ rfl; (with_reducible repeat (first | refine blk_drewN ?_ _ | refine blk_drew ?_ | refine blk_alloc ?_ _)); refine blk_put (cs := #[.int .i64 0, .int .i64 0, .slice none 0 0, .string (⟨#[]⟩ : ByteArray)]) ?_ 0 _ rfl; (with_reducible repeat (first | refine blk_drewN ?_ _ | refine blk_drew ?_ | refine blk_alloc ?_ _)); exact BK296.out) Tryd.underlying48 rfl (by kernel_rfl)) rfl ?_
      exact ⟨_, by first | rfl | (simp [errW_none, errW_some] <;> rfl) | (simp [*, errW_none, errW_some] <;> rfl), by first | exact Kd.R_nil _ _ _ _ _ | exact Kd.N_nil _ _ _ _ _ | exact Kd.V_nil _ _ _ _ _ | exact Kd.Q_nil _ _ _ _ _ | exact Kd.S_nil _ _ _ _ _, zb3 HB.out GE295.out GE296.out GE297.out⟩
     ·rw [if_neg c104] at H
      have c104b0 : decide (x298000_1 < 0) = false := decide_eq_false c104
      clear c104
      simp only [Option.some.injEq, Prod.mk.injEq] at H
      obtain ⟨rfl, rfl, rfl, rfl, rfl⟩ := H
      have hnb110 := NB297_295.out
      have hnc110 := NB295_297.out
      have hnb111 := NB297_296.out
      have hnc111 := NB296_297.out
      obtain ⟨hcz112_0, hcz112_1, hcz112_2, hcz112_3, hfz112_0, hfz112_1, hfz112_2, hfz112_3⟩ := zc4 BK297.out
      have hnb113 := NB296_295.out
      have hnc113 := NB295_296.out
      obtain ⟨hcz114_0, hcz114_1, hcz114_2, hcz114_3, hfz114_0, hfz114_1, hfz114_2, hfz114_3⟩ := zc4 BK296.out
      obtain ⟨Ao115, co115, eo115⟩ := Kd.R_slice HO_298002.out
      subst eo115
      go_wp2
      refine bodyPost_ret (results_ct rfl _ _ gb296 48 #[.int .i64 x298000_1, .int .i64 x298001_1, .slice Ao115 x298002_1.length co115, .string x298003_1] (0, 0) _ rfl (by (with_reducible repeat (first | refine blk_drewN ?_ _ | refine blk_drew ?_ | refine blk_alloc ?_ _)); refine blk_put (cs := #[.int .i64 x298000_1, .int .i64 x298001_1, .slice Ao115 x298002_1.length co115, .string (⟨#[]⟩ : ByteArray)]) ?_ 3 _ rfl; (with_reducible repeat (first | refine blk_drewN ?_ _ | refine blk_drew ?_ | refine blk_alloc ?_ _)); refine blk_put (cs := #[.int .i64 x298000_1, .int .i64 x298001_1, .slice none 0 0, .string (⟨#[]⟩ : ByteArray)]) ?_ 2 _ rfl; (with_reducible repeat (first | refine blk_drewN ?_ _ | refine blk_drew ?_ | refine blk_alloc ?_ _)); refine blk_put (cs := #[.int .i64 x298000_1, .int .i64 0, .slice none 0 0, .string (⟨#[]⟩ : ByteArray)]) ?_ 1 _ rfl; (with_reducible repeat (first | refine blk_drewN ?_ _ | refine blk_drew ?_ | refine blk_alloc ?_ _)); refine blk_put (cs := #[.int .i64 0, .int .i64 0, .slice none 0 0, .string (⟨#[]⟩ : ByteArray)]) ?_ 0 _ rfl; (with_reducible repeat (first | refine blk_drewN ?_ _ | refine blk_drew ?_ | refine blk_alloc ?_ _)); exact BK296.out) Tryd.underlying48 rfl (by kernel_rfl)) rfl ?_
      exact ⟨_, by first | rfl | (simp [errW_none, errW_some] <;> rfl) | (simp [*, errW_none, errW_some] <;> rfl), rx (Kd.R_mono (Kd.R_far (p := ⟨gb296, 3, none⟩) (Kd.R_far (p := ⟨gb296, 2, none⟩) (Kd.R_far (p := ⟨gb296, 1, none⟩) (Kd.R_far (p := ⟨gb296, 0, none⟩) (Kd.R_types HO_298002.out BK296.out (by decide)) (fun _ hk => hk.2) (.int .i64 x298000_1)) (fun _ hk => hk.2) (.int .i64 x298001_1)) (fun _ hk => hk.2) (.slice Ao115 x298002_1.length co115)) (fun _ hk => hk.2) (.string x298003_1)) (fun _ hk => trivial)), zb3 HB.out GE295.out GE296.out GE297.out⟩
 ·replace c3 := Bool.eq_false_iff.mpr c3
  subst c3
  have H1 : (some (0, 0, ([] : List Int), (⟨#[]⟩ : ByteArray), false)) = some (r1, r2, r3, r4, r5) := by rw [if_neg (show ¬ (false = true) by decide)] at H; exact H
  clear H
  have H := H1
  clear H1
  simp only [Option.some.injEq, Prod.mk.injEq] at H
  obtain ⟨rfl, rfl, rfl, rfl, rfl⟩ := H
  go_enter Tryd.func27, Tryd.ntmps27
  go_wp2_with (first | ((with_reducible refine gate_dst (N := 1) rfl ?_); refine box_event ?hg (N := 1) ?hd (cs := #[.slice A0_0 l0_0.length c0_0]) (t := 53) ?hr ?_; (case hd => rfl); (case hg => rfl); (case hr => first | (go_simp; done) | (go_simp; rfl)); intro gb295 hg w116 hbox hb; have BK295 := am (hbox); have GW295 := zge hg (zb0 HB.out); have GE295 := zge hg (zb0 HB.out); replace HB := am (below_step (zb0 HB.out) hb); clear hb hbox hg) | ((with_reducible refine gate_dst (N := 2) rfl ?_); refine box_event ?hg (N := 2) ?hd (cs := #[.int .i64 0, .int .i64 0, .slice none 0 0, .string (⟨#[]⟩ : ByteArray)]) (t := 48) ?hr ?_; (case hd => rfl); (case hg => rfl); (case hr => first | (go_simp; done) | (go_simp; rfl)); intro gb296 hg w117 hbox hb; have BK296 := am (hbox); have GW296 := zge hg (zb1 HB.out GE295.out); have GE296 := zge hg (zb1 HB.out GE295.out); have NB295_296 := znl hg (kx BK295.out); have NB296_295 := zng hg (kx BK295.out); replace BK295 := am (bb hb (kx BK295.out)); replace HB := am (below_step (zb1 HB.out GE295.out) hb); clear hb hbox hg) | ((with_reducible refine gate_dst (N := 4) rfl ?_); refine box_event ?hg (N := 4) ?hd (cs := #[.int .i64 0, .int .i64 0, .slice none 0 0, .string (⟨#[]⟩ : ByteArray)]) (t := 48) ?hr ?_; (case hd => rfl); (case hg => rfl); (case hr => first | (go_simp; done) | (go_simp; rfl)); intro gb297 hg w118 hbox hb; have BK297 := am (hbox); have GW297 := zge hg (zb2 HB.out GE295.out GE296.out); have GE297 := zge hg (zb2 HB.out GE295.out GE296.out); have NB295_297 := znl hg (kx BK295.out); have NB297_295 := zng hg (kx BK295.out); have NB296_297 := znl hg (kx BK296.out); have NB297_296 := zng hg (kx BK296.out); replace BK295 := am (bb hb (kx BK295.out)); replace BK296 := am (bb hb (kx BK296.out)); replace HB := am (below_step (zb2 HB.out GE295.out GE296.out) hb); clear hb hbox hg; have hnb119 := NB297_295.out; have hnc119 := NB295_297.out; have hnb120 := NB297_296.out; have hnc120 := NB296_297.out; obtain ⟨hcz121_0, hcz121_1, hcz121_2, hcz121_3, hfz121_0, hfz121_1, hfz121_2, hfz121_3⟩ := zc4 BK297.out; have hnb122 := NB295_296.out; have hnc122 := NB296_295.out; obtain ⟨hcz123_0, hfz123_0⟩ := zc1 BK295.out) | ((with_reducible refine gate_callee (f := 51) rfl ?_); refine goesL_ (some 12) rfl rfl Tryd.func51 (by kernel_rfl) rfl #[.agg #[.slice A0_0 l0_0.length c0_0]] rfl zr ?_; (with_reducible refine (impl_DiskOk.calls k _ _ l0_0 false _ ?side1 ?side2 A2.out).mono ?_); (case side1 => exact Kd.C_below HR0_0.out (zb3 HB.out GE295.out GE296.out GE297.out)); (case side2 => exact HC0_0.out); rintro e w124 ⟨rfl, hb⟩; refine ⟨_, rfl, ?_⟩; replace BK295 := am (bb hb (zf1 BK295.out NB295_297.out)); replace BK296 := am (bb hb (zf1 BK296.out NB296_297.out)); replace BK297 := am (blk_below (g := gb297) (o := .cells #[.int .i64 (-1), .int .i64 0, .slice none 0 0, .string (⟨#[]⟩ : ByteArray)] 48 (0, 0)) (by (with_reducible repeat (first | refine blk_drewN ?_ _ | refine blk_drew ?_ | refine blk_alloc ?_ _)); refine blk_put (cs := #[.int .i64 (-1), .int .i64 0, .slice none 0 0, .string (⟨#[]⟩ : ByteArray)]) ?_ 3 _ rfl; (with_reducible repeat (first | refine blk_drewN ?_ _ | refine blk_drew ?_ | refine blk_alloc ?_ _)); refine blk_put (cs := #[.int .i64 (-1), .int .i64 0, .slice none 0 0, .string (⟨#[]⟩ : ByteArray)]) ?_ 2 _ rfl; (with_reducible repeat (first | refine blk_drewN ?_ _ | refine blk_drew ?_ | refine blk_alloc ?_ _)); refine blk_put (cs := #[.int .i64 (-1), .int .i64 0, .slice none 0 0, .string (⟨#[]⟩ : ByteArray)]) ?_ 1 _ rfl; (with_reducible repeat (first | refine blk_drewN ?_ _ | refine blk_drew ?_ | refine blk_alloc ?_ _)); refine blk_put (cs := #[.int .i64 0, .int .i64 0, .slice none 0 0, .string (⟨#[]⟩ : ByteArray)]) ?_ 0 _ rfl; (with_reducible repeat (first | refine blk_drewN ?_ _ | refine blk_drew ?_ | refine blk_alloc ?_ _)); exact BK297.out) hb); replace HB := am (below_step (zb3 HB.out GE295.out GE296.out GE297.out) hb); (try clear hb); (try clear hb2); (try clear hk); (try clear hi); obtain ⟨hcz125_0, hcz125_1, hcz125_2, hcz125_3, hfz125_0, hfz125_1, hfz125_2, hfz125_3⟩ := zc4 BK296.out))
  refine bodyPost_ret (results_ct rfl _ _ gb296 48 #[.int .i64 0, .int .i64 0, .slice none 0 0, .string (⟨#[]⟩ : ByteArray)] (0, 0) _ rfl (by (with_reducible repeat (first | refine blk_drewN ?_ _ | refine blk_drew ?_ | refine blk_alloc ?_ _)); refine blk_put (cs := #[.int .i64 0, .int .i64 0, .slice none 0 0, .string (⟨#[]⟩ : ByteArray)]) ?_ 3 _ rfl; (with_reducible repeat (first | refine blk_drewN ?_ _ | refine blk_drew ?_ | refine blk_alloc ?_ _)); refine blk_put (cs := #[.int .i64 0, .int .i64 0, .slice none 0 0, .string (⟨#[]⟩ : ByteArray)]) ?_ 2 _ rfl; (with_reducible repeat (first | refine blk_drewN ?_ _ | refine blk_drew ?_ | refine blk_alloc ?_ _)); refine blk_put (cs := #[.int .i64 0, .int .i64 0, .slice none 0 0, .string (⟨#[]⟩ : ByteArray)]) ?_ 1 _ rfl; (with_reducible repeat (first | refine blk_drewN ?_ _ | refine blk_drew ?_ | refine blk_alloc ?_ _)); refine blk_put (cs := #[.int .i64 0, .int .i64 0, .slice none 0 0, .string (⟨#[]⟩ : ByteArray)]) ?_ 0 _ rfl; (with_reducible repeat (first | refine blk_drewN ?_ _ | refine blk_drew ?_ | refine blk_alloc ?_ _)); exact BK296.out) Tryd.underlying48 rfl (by kernel_rfl)) rfl ?_
  exact ⟨_, by first | rfl | (simp [errW_none, errW_some] <;> rfl) | (simp [*, errW_none, errW_some] <;> rfl), by first | exact Kd.R_nil _ _ _ _ _ | exact Kd.N_nil _ _ _ _ _ | exact Kd.V_nil _ _ _ _ _ | exact Kd.Q_nil _ _ _ _ _ | exact Kd.S_nil _ _ _ _ _, zb3 HB.out GE295.out GE296.out GE297.out⟩

end Go.Proofs.YtogifkjkbfdocaaDoor.QFnExactNewestSnap
