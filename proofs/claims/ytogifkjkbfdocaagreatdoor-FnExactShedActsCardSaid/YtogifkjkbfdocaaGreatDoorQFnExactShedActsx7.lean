/- Written by the kit's print.py, called by our own print2.sh with one import more; not by print.sh. -/
import Derived.Test.YtogifkjkbfdocaaGreatDoorQFnExactShedActsx0
import Derived.Test.YtogifkjkbfdocaaGreatDoorQFnExactShedActsx2
import Derived.Test.YtogifkjkbfdocaaGreatDoorQFnExactShedActsx4
import Derived.Test.YtogifkjkbfdocaaGreatDoorQFnExactShedActsx5
import Derived.Test.YtogifkjkbfdocaaGreatDoorQFnExactShedActsx6
namespace Go.Proofs.YtogifkjkbfdocaaGreatDoor.QFnExactShedActs
open Go.RowKit Go.Proofs.YtogifkjkbfdocaaGreatDoorW.PrintWords Go.Proofs.YtogifkjkbfdocaaGreatDoorW.PrintLast Go.Proofs.YtogifkjkbfdocaaGreatDoorW.PrintMore
attribute [local go_sem] max2_int min2_int max_two min_two max_three min_three max_four min_four   -- for this text's walks alone
open Go.Proofs.YtogifkjkbfdocaaGreatDoor.Short
set_option linter.unusedVariables false
set_option linter.unusedSimpArgs false

/-! ### spec_ReadConf: function 106 -/
def spec_ReadConf.l0 : Nat → ByteArray → List Int → Int → Option (List Int × Bool)
 | 0, _, _, _ => none
 | k + 1, x0, x4, x5 => if x5 < (x0.size : Int) then (if x5 ≤ 4 then (if 0 ≤ x5 then (if x4.length < 17592186044416 then (spec_ReadConf.l0 k x0 (x4 ++ [wrap64 (bt x0 x5)]) (wrap64 (x5 + 1))) else (none)) else (none)) else (if (x4.length : Int) = (x0.size : Int) then ((spec_ConfOk.f k x4).bind fun t172 => (if t172 = true then (some (x4, true)) else (some ((([] : List Int)), false)))) else (some ((([] : List Int)), false)))) else (if (x4.length : Int) = (x0.size : Int) then ((spec_ConfOk.f k x4).bind fun t179 => (if t179 = true then (some (x4, true)) else (some ((([] : List Int)), false)))) else (some ((([] : List Int)), false)))
def spec_ReadConf.f (k : Nat) (a0 : ByteArray) : Option (List Int × Bool) := spec_ReadConf.l0 k a0 (([] : List Int)) 0
theorem spec_ReadConf.mono_l : ∀ k, (∀ y0 y1 y2, LeO (spec_ReadConf.l0 k y0 y1 y2) (spec_ReadConf.l0 (k + 1) y0 y1 y2))
 | 0 => fun _ _ _ r h => by simp [spec_ReadConf.l0] at h
 | k + 1 => by
  have ih0 := spec_ReadConf.mono_l k
  ·intro y0 y1 y2
   unfold spec_ReadConf.l0
   repeat' first
   | (with_reducible exact ih0 _ _ _)
   | (with_reducible exact spec_ConfOk.mono _ _)
   | (with_reducible exact LeO.refl _)
   | (with_reducible exact LeO.none _)
   | (with_reducible refine LeO.ite ?_ ?_)
   | (with_reducible refine LeO.bind ?_ (fun _ => ?_))
   | exact ih0 _ _ _
   | exact spec_ConfOk.mono _ _
   | exact LeO.none _
   | refine LeO.ite ?_ ?_
   | refine LeO.bind ?_ (fun _ => ?_)
theorem spec_ReadConf.mono : ∀ a0 k, LeO (spec_ReadConf.f k a0) (spec_ReadConf.f (k + 1) a0) := by
 intro a0 k
 have ih0 := spec_ReadConf.mono_l k
 unfold spec_ReadConf.f
 repeat' first
   | (with_reducible exact ih0 _ _ _)
   | (with_reducible exact spec_ConfOk.mono _ _)
   | (with_reducible exact LeO.refl _)
   | (with_reducible exact LeO.none _)
   | (with_reducible refine LeO.ite ?_ ?_)
   | (with_reducible refine LeO.bind ?_ (fun _ => ?_))
   | exact ih0 _ _ _
   | exact spec_ConfOk.mono _ _
   | exact LeO.none _
   | refine LeO.ite ?_ ?_
   | refine LeO.bind ?_ (fun _ => ?_)
set_option maxHeartbeats 8000000 in
set_option maxRecDepth 100000 in
theorem spec_ReadConf.calls (k : Nat) (a0 : ByteArray) (r1 : List Int) (r2 : Bool) (w : World) (h : spec_ReadConf.f k a0 = some (r1, r2)) :
  Calls Tryz.prog 106 #[.string a0] w fun e w' => ∃ v0_ : Value, e = .returned (.tuple #[v0_, .bool r2]) ∧ Kd.R (Kd.int .i64) 3 w' w.heap.size (fun _ => True) v0_ r1 ∧ Below w.heap.size w w' := by
 have HB := Aside0.mk (Below.refl w.heap.size w)
 have H : (spec_ReadConf.l0 k a0 (([] : List Int)) 0) = some (r1, r2) := h
 clear h
 obtain ⟨y166, hy166⟩ : ∃ y_ : List Int, y_ = (([] : List Int)) := ⟨_, rfl⟩
 replace H : (spec_ReadConf.l0 k a0 y166 0) = some (r1, r2) := by first | (rw [hy166]; with_reducible exact H) | (have H2_ := (Option.bind_some _ _).symm.trans H; rw [hy166]; with_reducible exact H2_) | (have H2_ := (Option.bind_some _ _).symm.trans H; with_reducible exact H2_) | with_reducible exact H | (rw [hy166]; exact H) | exact H
 have Ny166 := Aside0.mk hy166
 clear hy166
 have H' := Aside0.mk H
 clear H
 go_enter Tryz.func106, Tryz.ntmps106
 go_wp2_with (first | ((with_reducible refine gate_dst (N := 6) rfl ?_); refine Kd.R_lit (Kd.int .i64) _ 3 ?hg (N := 6) ?hd (xs := ([] : List Int)) (inner := []) (ok := fun _ => True) (okp := fun _ => True) ?hr ?hp (fun _ hk => hk) trivial (Below.refl _ _) (Nat.le_refl _) (by simp) ?_; (case hd => rfl); (case hg => rfl); (case hr => first | (go_simp; done) | (go_simp; rfl)); (case hp => exact (Reps.none _ _)); intro v167 w2 ho3 hb hg_ hnew_; clear hg_ hnew_; (first | rw [← Ny166.out] at ho3 | (simp only [Int.reduceToNat] at ho3; rw [← Ny166.out] at ho3)); have HO168 := am (Kd.R_lower ho3 (below_size (zb0 HB.out))); replace HB := zs0 hb HB; clear hb ho3))
 go_loopg [4, 5] k (fun kq v4 v5 w' => ∃ (x4_1 : List Int) (x5_1 : Int), v5 = .int .i64 x5_1 ∧ Aside0 (spec_ReadConf.l0 kq a0 x4_1 x5_1 = some (r1, r2)) ∧ Aside0 (kq ≤ k) ∧ Aside0 (Kd.R (Kd.int .i64) 3 w' w.heap.size (fun _ => True) v4 x4_1) ∧ Aside0 (Below w.heap.size w w'))
 case atStart => exact ⟨(y166), (0), (by first | rfl | (simp; done) | (simp [*]; done)), H', ⟨Nat.le_refl _⟩, ⟨rx HO168.out⟩, ⟨zb0 HB.out⟩⟩
 case round =>
  clear H'
  obtain ⟨x4_1, x5_1, rfl, HA, HK1, HO_4, HB⟩ := hrel
  cases gk with
  | zero => exact absurd HA.out (by simp [spec_ReadConf.l0])
  | succ k1 =>
   have H := HA.out
   clear HA
   simp only [spec_ReadConf.l0] at H
   by_cases c4 : x5_1 < (a0.size : Int)
   ·rw [if_pos c4] at H
    have c4b0 : decide (x5_1 < (a0.size : Int)) = true := decide_eq_true c4
    have c4b1 : decide ((a0.size : Int) ≤ x5_1) = false := decide_eq_false (by omega)
    clear c4
    by_cases c5 : x5_1 ≤ 4
    ·rw [if_pos c5] at H
     have c5b0 : decide (x5_1 ≤ 4) = true := decide_eq_true c5
     clear c5
     by_cases c6 : 0 ≤ x5_1
     ·rw [if_pos c6] at H
      have c6b0 : decide (0 ≤ x5_1) = true := decide_eq_true c6
      clear c6
      by_cases c8 : x4_1.length < 17592186044416
      ·rw [if_pos c8] at H
       have LMc8 := Aside0.mk c8
       clear c8
       obtain ⟨y169, hy169⟩ : ∃ y_ : List Int, y_ = (x4_1 ++ [wrap64 (bt a0 x5_1)]) := ⟨_, rfl⟩
       replace H : (spec_ReadConf.l0 k1 a0 y169 (wrap64 (x5_1 + 1))) = some (r1, r2) := by first | (rw [hy169]; with_reducible exact H) | (have H2_ := (Option.bind_some _ _).symm.trans H; rw [hy169]; with_reducible exact H2_) | (have H2_ := (Option.bind_some _ _).symm.trans H; with_reducible exact H2_) | with_reducible exact H | (rw [hy169]; exact H) | exact H
       have Ny169 := Aside0.mk hy169
       clear hy169
       have H' := Aside0.mk H
       clear H
       have p7 : 0 ≤ (x5_1 : Int) := of_decide_eq_true (by first | (with_reducible assumption) | assumption)
       have q7 : x5_1 < (a0.size : Int) := of_decide_eq_true (by first | (with_reducible assumption) | assumption)
       have hx7 := bt_at a0 x5_1
       replace p7 := eq_true p7
       replace q7 := eq_true q7
       go_wp2_with (first | ((with_reducible refine gate_builtin (b := .append) (xs := #[.tmp 17, .tmp 22]) rfl ?_); at_builtin; refine Kd.R_append (Kd.int .i64) (w0 := w) w.heap.size rfl (.tmp 17) (.tmp 22) 46 3 (.int .i64 0) 8 rfl Tryz.underlying46 info3 rfl (by decide) (by omega) u4 x4_1 (wrap64 (bt a0 x5_1)) [.int .i64 (wrap64 (bt a0 x5_1))] (fun _ => True) (fun _ => False) rfl rfl ?aP (fun _ hk => hk.elim) ?aF ?aO ?aB ?aS ?aL ?_; (case aP => exact rfl); (case aB => exact (zb0 HB.out)); (case aF => exact (fun _ _ => trivial)); (case aO => exact (rx HO_4.out)); (case aS => exact (below_size (zb0 HB.out))); (case aL => have := LMc8.out; omega); intro v170 w9 ho hb hg hat; rw [← Ny169.out] at ho; have HO171 := am (ho); replace HB := am (hb); clear HO_4; clear ho hb hg hat))
       go_roundg k1
       case measure => have := HK1.out; omega
       case rel => exact ⟨(y169), (wrap64 (x5_1 + 1)), (by first | rfl | (simp; done) | (simp [*]; done)), H', ⟨by have := HK1.out; omega⟩, ⟨rx HO171.out⟩, ⟨zb0 HB.out⟩⟩
      ·rw [if_neg c8] at H
       exact absurd H (by simp)
     ·rw [if_neg c6] at H
      exact absurd H (by simp)
    ·rw [if_neg c5] at H
     have c5b0 : decide (x5_1 ≤ 4) = false := decide_eq_false c5
     clear c5
     by_cases c10 : (x4_1.length : Int) = (a0.size : Int)
     ·rw [if_pos c10] at H
      have c10b0 : ((x4_1.length : Int) == (a0.size : Int)) = true := beq_iff_eq.mpr c10
      have c10b1 : ((x4_1.length : Int) != (a0.size : Int)) = false := bne_eq_false_iff_eq.mpr c10
      have c10b2 : (x4_1.length == a0.size) = true := by first | simpa using c10 | (simp at c10 ⊢; omega)
      clear c10
      replace H := Option.bind_eq_some_iff.mp H
      obtain ⟨t172, A110, H⟩ := H
      try dsimp only at H
      have A11 := Aside0.mk A110
      clear A110
      by_cases c12 : t172 = true
      ·subst c12
       have H1 : (some (x4_1, true)) = some (r1, r2) := by rw [if_pos rfl] at H; exact H
       clear H
       have H := H1
       clear H1
       simp only [Option.some.injEq, Prod.mk.injEq] at H
       obtain ⟨rfl, rfl⟩ := H
       obtain ⟨Ao13, co13, eo13⟩ := Kd.R_slice HO_4.out
       subst eo13
       go_wp2_with (first | (go_at_call 141; (with_reducible refine (spec_ConfOk.calls k1 _ _ x4_1 true _ ?side1 ?side2 A11.out).mono ?_); (case side1 => repeat (first | exact (Kd.R_reads' HO_4.out).2.2 | (with_reducible refine Kd.C_alloc ?_ _) | (with_reducible refine Kd.C_drewN ?_ _) | (with_reducible refine Kd.C_drew ?_))); (case side2 => exact (Kd.R_reads' HO_4.out).2.1); rintro e w' ⟨rfl, ⟨nd, rfl⟩⟩))
       go_ret2
       exact ⟨_, by first | rfl | (simp [errW_none, errW_some] <;> rfl) | (simp [*, errW_none, errW_some] <;> rfl), rx HO_4.out, zb0 HB.out⟩
      ·replace c12 := Bool.eq_false_iff.mpr c12
       subst c12
       have H1 : (some ((([] : List Int)), false)) = some (r1, r2) := by rw [if_neg (show ¬ (false = true) by decide)] at H; exact H
       clear H
       have H := H1
       clear H1
       obtain ⟨y173, hy173⟩ : ∃ y_ : List Int, y_ = (([] : List Int)) := ⟨_, rfl⟩
       replace H : (some (y173, false)) = some (r1, r2) := by first | (rw [hy173]; with_reducible exact H) | (have H2_ := (Option.bind_some _ _).symm.trans H; rw [hy173]; with_reducible exact H2_) | (have H2_ := (Option.bind_some _ _).symm.trans H; with_reducible exact H2_) | with_reducible exact H | (rw [hy173]; exact H) | exact H
       have Ny173 := Aside0.mk hy173
       clear hy173
       simp only [Option.some.injEq, Prod.mk.injEq] at H
       obtain ⟨rfl, rfl⟩ := H
       obtain ⟨Ao14, co14, eo14⟩ := Kd.R_slice HO_4.out
       subst eo14
       go_wp2_with (first | (go_at_call 141; (with_reducible refine (spec_ConfOk.calls k1 _ _ x4_1 false _ ?side1 ?side2 A11.out).mono ?_); (case side1 => repeat (first | exact (Kd.R_reads' HO_4.out).2.2 | (with_reducible refine Kd.C_alloc ?_ _) | (with_reducible refine Kd.C_drewN ?_ _) | (with_reducible refine Kd.C_drew ?_))); (case side2 => exact (Kd.R_reads' HO_4.out).2.1); rintro e w' ⟨rfl, ⟨nd, rfl⟩⟩) | ((with_reducible refine gate_dst (N := 34) rfl ?_); refine Kd.R_lit (Kd.int .i64) _ 3 ?hg (N := 34) ?hd (xs := ([] : List Int)) (inner := []) (ok := fun _ => True) (okp := fun _ => True) ?hr ?hp (fun _ hk => hk) trivial (Below.refl _ _) (Nat.le_refl _) (by simp) ?_; (case hd => rfl); (case hg => rfl); (case hr => first | (go_simp; done) | (go_simp; rfl)); (case hp => exact (Reps.none _ _)); intro v174 w15 ho16 hb hg_ hnew_; clear hg_ hnew_; (first | rw [← Ny173.out] at ho16 | (simp only [Int.reduceToNat] at ho16; rw [← Ny173.out] at ho16)); have HO175 := am (Kd.R_lower (Kd.R_new' ho16 (Kd.R_lt (rx HO_4.out))) (below_size (zb0 HB.out))); replace HO_4 := am (Kd.R_elder' (rx HO_4.out) (Kd.R_base ho16) hb); replace HB := zs0 hb HB; clear hb ho16))
       go_ret2
       exact ⟨_, by first | rfl | (simp [errW_none, errW_some] <;> rfl) | (simp [*, errW_none, errW_some] <;> rfl), rx (Kd.R_mono HO175.out (fun _ hk => trivial)), zb0 HB.out⟩
     ·rw [if_neg c10] at H
      have c10b0 : ((x4_1.length : Int) == (a0.size : Int)) = false := beq_eq_false_iff_ne.mpr c10
      have c10b1 : ((x4_1.length : Int) != (a0.size : Int)) = true := bne_iff_ne.mpr c10
      have c10b2 : (x4_1.length == a0.size) = false := by first | simpa using c10 | (simp at c10 ⊢; omega)
      obtain ⟨y176, hy176⟩ : ∃ y_ : List Int, y_ = (([] : List Int)) := ⟨_, rfl⟩
      replace H : (some (y176, false)) = some (r1, r2) := by first | (rw [hy176]; with_reducible exact H) | (have H2_ := (Option.bind_some _ _).symm.trans H; rw [hy176]; with_reducible exact H2_) | (have H2_ := (Option.bind_some _ _).symm.trans H; with_reducible exact H2_) | with_reducible exact H | (rw [hy176]; exact H) | exact H
      have Ny176 := Aside0.mk hy176
      clear hy176
      simp only [Option.some.injEq, Prod.mk.injEq] at H
      obtain ⟨rfl, rfl⟩ := H
      obtain ⟨Ao17, co17, eo17⟩ := Kd.R_slice HO_4.out
      subst eo17
      go_wp2_with (first | ((with_reducible refine gate_dst (N := 34) rfl ?_); refine Kd.R_lit (Kd.int .i64) _ 3 ?hg (N := 34) ?hd (xs := ([] : List Int)) (inner := []) (ok := fun _ => True) (okp := fun _ => True) ?hr ?hp (fun _ hk => hk) trivial (Below.refl _ _) (Nat.le_refl _) (by simp) ?_; (case hd => rfl); (case hg => rfl); (case hr => first | (go_simp; done) | (go_simp; rfl)); (case hp => exact (Reps.none _ _)); intro v177 w18 ho19 hb hg_ hnew_; clear hg_ hnew_; (first | rw [← Ny176.out] at ho19 | (simp only [Int.reduceToNat] at ho19; rw [← Ny176.out] at ho19)); have HO178 := am (Kd.R_lower (Kd.R_new' ho19 (Kd.R_lt (rx HO_4.out))) (below_size (zb0 HB.out))); replace HO_4 := am (Kd.R_elder' (rx HO_4.out) (Kd.R_base ho19) hb); replace HB := zs0 hb HB; clear hb ho19))
      go_ret2
      exact ⟨_, by first | rfl | (simp [errW_none, errW_some] <;> rfl) | (simp [*, errW_none, errW_some] <;> rfl), rx (Kd.R_mono HO178.out (fun _ hk => trivial)), zb0 HB.out⟩
   ·rw [if_neg c4] at H
    have c4b0 : decide (x5_1 < (a0.size : Int)) = false := decide_eq_false c4
    have c4b1 : decide ((a0.size : Int) ≤ x5_1) = true := decide_eq_true (by omega)
    clear c4
    by_cases c20 : (x4_1.length : Int) = (a0.size : Int)
    ·rw [if_pos c20] at H
     have c20b0 : ((x4_1.length : Int) == (a0.size : Int)) = true := beq_iff_eq.mpr c20
     have c20b1 : ((x4_1.length : Int) != (a0.size : Int)) = false := bne_eq_false_iff_eq.mpr c20
     have c20b2 : (x4_1.length == a0.size) = true := by first | simpa using c20 | (simp at c20 ⊢; omega)
     clear c20
     replace H := Option.bind_eq_some_iff.mp H
     obtain ⟨t179, A210, H⟩ := H
     try dsimp only at H
     have A21 := Aside0.mk A210
     clear A210
     by_cases c22 : t179 = true
     ·subst c22
      have H1 : (some (x4_1, true)) = some (r1, r2) := by rw [if_pos rfl] at H; exact H
      clear H
      have H := H1
      clear H1
      simp only [Option.some.injEq, Prod.mk.injEq] at H
      obtain ⟨rfl, rfl⟩ := H
      obtain ⟨Ao23, co23, eo23⟩ := Kd.R_slice HO_4.out
      subst eo23
      go_wp2_with (first | (go_at_call 141; (with_reducible refine (spec_ConfOk.calls k1 _ _ x4_1 true _ ?side1 ?side2 A21.out).mono ?_); (case side1 => repeat (first | exact (Kd.R_reads' HO_4.out).2.2 | (with_reducible refine Kd.C_alloc ?_ _) | (with_reducible refine Kd.C_drewN ?_ _) | (with_reducible refine Kd.C_drew ?_))); (case side2 => exact (Kd.R_reads' HO_4.out).2.1); rintro e w' ⟨rfl, ⟨nd, rfl⟩⟩))
      go_ret2
      exact ⟨_, by first | rfl | (simp [errW_none, errW_some] <;> rfl) | (simp [*, errW_none, errW_some] <;> rfl), rx HO_4.out, zb0 HB.out⟩
     ·replace c22 := Bool.eq_false_iff.mpr c22
      subst c22
      have H1 : (some ((([] : List Int)), false)) = some (r1, r2) := by rw [if_neg (show ¬ (false = true) by decide)] at H; exact H
      clear H
      have H := H1
      clear H1
      obtain ⟨y180, hy180⟩ : ∃ y_ : List Int, y_ = (([] : List Int)) := ⟨_, rfl⟩
      replace H : (some (y180, false)) = some (r1, r2) := by first | (rw [hy180]; with_reducible exact H) | (have H2_ := (Option.bind_some _ _).symm.trans H; rw [hy180]; with_reducible exact H2_) | (have H2_ := (Option.bind_some _ _).symm.trans H; with_reducible exact H2_) | with_reducible exact H | (rw [hy180]; exact H) | exact H
      have Ny180 := Aside0.mk hy180
      clear hy180
      simp only [Option.some.injEq, Prod.mk.injEq] at H
      obtain ⟨rfl, rfl⟩ := H
      obtain ⟨Ao24, co24, eo24⟩ := Kd.R_slice HO_4.out
      subst eo24
      go_wp2_with (first | (go_at_call 141; (with_reducible refine (spec_ConfOk.calls k1 _ _ x4_1 false _ ?side1 ?side2 A21.out).mono ?_); (case side1 => repeat (first | exact (Kd.R_reads' HO_4.out).2.2 | (with_reducible refine Kd.C_alloc ?_ _) | (with_reducible refine Kd.C_drewN ?_ _) | (with_reducible refine Kd.C_drew ?_))); (case side2 => exact (Kd.R_reads' HO_4.out).2.1); rintro e w' ⟨rfl, ⟨nd, rfl⟩⟩) | ((with_reducible refine gate_dst (N := 34) rfl ?_); refine Kd.R_lit (Kd.int .i64) _ 3 ?hg (N := 34) ?hd (xs := ([] : List Int)) (inner := []) (ok := fun _ => True) (okp := fun _ => True) ?hr ?hp (fun _ hk => hk) trivial (Below.refl _ _) (Nat.le_refl _) (by simp) ?_; (case hd => rfl); (case hg => rfl); (case hr => first | (go_simp; done) | (go_simp; rfl)); (case hp => exact (Reps.none _ _)); intro v181 w25 ho26 hb hg_ hnew_; clear hg_ hnew_; (first | rw [← Ny180.out] at ho26 | (simp only [Int.reduceToNat] at ho26; rw [← Ny180.out] at ho26)); have HO182 := am (Kd.R_lower (Kd.R_new' ho26 (Kd.R_lt (rx HO_4.out))) (below_size (zb0 HB.out))); replace HO_4 := am (Kd.R_elder' (rx HO_4.out) (Kd.R_base ho26) hb); replace HB := zs0 hb HB; clear hb ho26))
      go_ret2
      exact ⟨_, by first | rfl | (simp [errW_none, errW_some] <;> rfl) | (simp [*, errW_none, errW_some] <;> rfl), rx (Kd.R_mono HO182.out (fun _ hk => trivial)), zb0 HB.out⟩
    ·rw [if_neg c20] at H
     have c20b0 : ((x4_1.length : Int) == (a0.size : Int)) = false := beq_eq_false_iff_ne.mpr c20
     have c20b1 : ((x4_1.length : Int) != (a0.size : Int)) = true := bne_iff_ne.mpr c20
     have c20b2 : (x4_1.length == a0.size) = false := by first | simpa using c20 | (simp at c20 ⊢; omega)
     obtain ⟨y183, hy183⟩ : ∃ y_ : List Int, y_ = (([] : List Int)) := ⟨_, rfl⟩
     replace H : (some (y183, false)) = some (r1, r2) := by first | (rw [hy183]; with_reducible exact H) | (have H2_ := (Option.bind_some _ _).symm.trans H; rw [hy183]; with_reducible exact H2_) | (have H2_ := (Option.bind_some _ _).symm.trans H; with_reducible exact H2_) | with_reducible exact H | (rw [hy183]; exact H) | exact H
     have Ny183 := Aside0.mk hy183
     clear hy183
     simp only [Option.some.injEq, Prod.mk.injEq] at H
     obtain ⟨rfl, rfl⟩ := H
     obtain ⟨Ao27, co27, eo27⟩ := Kd.R_slice HO_4.out
     subst eo27
     go_wp2_with (first | ((with_reducible refine gate_dst (N := 34) rfl ?_); refine Kd.R_lit (Kd.int .i64) _ 3 ?hg (N := 34) ?hd (xs := ([] : List Int)) (inner := []) (ok := fun _ => True) (okp := fun _ => True) ?hr ?hp (fun _ hk => hk) trivial (Below.refl _ _) (Nat.le_refl _) (by simp) ?_; (case hd => rfl); (case hg => rfl); (case hr => first | (go_simp; done) | (go_simp; rfl)); (case hp => exact (Reps.none _ _)); intro v184 w28 ho29 hb hg_ hnew_; clear hg_ hnew_; (first | rw [← Ny183.out] at ho29 | (simp only [Int.reduceToNat] at ho29; rw [← Ny183.out] at ho29)); have HO185 := am (Kd.R_lower (Kd.R_new' ho29 (Kd.R_lt (rx HO_4.out))) (below_size (zb0 HB.out))); replace HO_4 := am (Kd.R_elder' (rx HO_4.out) (Kd.R_base ho29) hb); replace HB := zs0 hb HB; clear hb ho29))
     go_ret2
     exact ⟨_, by first | rfl | (simp [errW_none, errW_some] <;> rfl) | (simp [*, errW_none, errW_some] <;> rfl), rx (Kd.R_mono HO185.out (fun _ hk => trivial)), zb0 HB.out⟩

/-! ### spec_l05Take: function 116 -/
def spec_l05Take.f (s0_0 : ByteArray) (s0_1 : Int) (s0_2 : Bool) (a1 : Int) : Option (ByteArray × ByteArray × Int × Bool) := if s0_2 = true then (some ((⟨#[]⟩ : ByteArray), s0_0, s0_1, true)) else (if a1 > (wrap64 ((s0_0.size : Int) - s0_1)) then (some ((⟨#[]⟩ : ByteArray), s0_0, s0_1, true)) else (if 0 ≤ (wrap64 ((wrap64 (s0_1 + a1)) - a1)) then (if (wrap64 ((wrap64 (s0_1 + a1)) - a1)) ≤ (wrap64 (s0_1 + a1)) then (if (wrap64 (s0_1 + a1)) ≤ (s0_0.size : Int) then (some (s0_0.extract ((wrap64 ((wrap64 (s0_1 + a1)) - a1)) : Int).toNat ((wrap64 (s0_1 + a1)) : Int).toNat, s0_0, wrap64 (s0_1 + a1), s0_2)) else (none)) else (none)) else (none)))
set_option maxHeartbeats 8000000 in
set_option maxRecDepth 100000 in
theorem spec_l05Take.calls (g : Nat) (s0_0 : ByteArray) (s0_1 : Int) (s0_2 : Bool) (a1 : Int) (r1 : ByteArray) (r2 : ByteArray) (r3 : Int) (r4 : Bool) (w0 w : World) (hI : IsS121 w0 w g s0_0 s0_1 s0_2) (hB : Below w0.heap.size w0 w) (h : spec_l05Take.f s0_0 s0_1 s0_2 a1 = some (r1, r2, r3, r4)) :
  Calls Tryz.prog 116 #[.pointer (some ⟨g, 0, none⟩), .int .i64 a1] w fun e w' => e = .returned (.string r1) ∧ IsS121 w0 w' g r2 r3 r4 ∧ Below w0.heap.size w0 w' ∧ KeepBut w w' g none := by
 have HI0 := Aside0.mk hI
 have HK := Aside0.mk (KeepBut.refl w g none)
 have HL := Aside0.mk hB.size
 clear hI
 have HW0 := Aside0.mk hB.size
 have HB := Aside0.mk hB
 clear hB
 have H : (if s0_2 = true then (some ((⟨#[]⟩ : ByteArray), s0_0, s0_1, true)) else (if a1 > (wrap64 ((s0_0.size : Int) - s0_1)) then (some ((⟨#[]⟩ : ByteArray), s0_0, s0_1, true)) else (if 0 ≤ (wrap64 ((wrap64 (s0_1 + a1)) - a1)) then (if (wrap64 ((wrap64 (s0_1 + a1)) - a1)) ≤ (wrap64 (s0_1 + a1)) then (if (wrap64 (s0_1 + a1)) ≤ (s0_0.size : Int) then (some (s0_0.extract ((wrap64 ((wrap64 (s0_1 + a1)) - a1)) : Int).toNat ((wrap64 (s0_1 + a1)) : Int).toNat, s0_0, wrap64 (s0_1 + a1), s0_2)) else (none)) else (none)) else (none)))) = some (r1, r2, r3, r4) := h
 clear h
 by_cases c3 : s0_2 = true
 ·subst c3
  have H1 : (some ((⟨#[]⟩ : ByteArray), s0_0, s0_1, true)) = some (r1, r2, r3, r4) := by rw [if_pos rfl] at H; exact H
  clear H
  have H := H1
  clear H1
  simp only [Option.some.injEq, Prod.mk.injEq] at H
  obtain ⟨rfl, rfl, rfl, rfl⟩ := H
  obtain ⟨HGz4, hgz4⟩ := HI0.out
  have hcz4_0 := cellS121_0 HGz4
  have hcz4_1 := cellS121_1 HGz4
  have hcz4_2 := cellS121_2 HGz4
  have hfz4_0 := blk_frozen HGz4 0
  have hfz4_1 := blk_frozen HGz4 1
  have hfz4_2 := blk_frozen HGz4 2
  clear HGz4 hgz4
  go_enter Tryz.func116, Tryz.ntmps116
  go_wp2
  repeat (go_quiet (fail); try go_wp2)
  go_ret
  exact ⟨by first | rfl | (simp [errW_none, errW_some] <;> rfl) | (simp [*, errW_none, errW_some] <;> rfl), by repeat (first | (with_reducible first | exact HI0.out | apply IsS121.alloc | apply IsS121.drewN | apply IsS121.drew | apply IsS121.set_0 | apply IsS121.set_1 | apply IsS121.set_2) | exact HI0.out), by repeat (first | (with_reducible first | exact HB.out | apply below_alloc | apply pw_below_drewN | apply below_drew1 | refine below_set ?_ (IsS121.ge HI0.out)) | exact HB.out), by repeat (first | (with_reducible first | exact HK.out | apply KeepBut.set_ | apply keep_drewN | apply keep_drew | apply keep_alloc) | exact HK.out)⟩
 ·replace c3 := Bool.eq_false_iff.mpr c3
  subst c3
  have H1 : (if a1 > (wrap64 ((s0_0.size : Int) - s0_1)) then (some ((⟨#[]⟩ : ByteArray), s0_0, s0_1, true)) else (if 0 ≤ (wrap64 ((wrap64 (s0_1 + a1)) - a1)) then (if (wrap64 ((wrap64 (s0_1 + a1)) - a1)) ≤ (wrap64 (s0_1 + a1)) then (if (wrap64 (s0_1 + a1)) ≤ (s0_0.size : Int) then (some (s0_0.extract ((wrap64 ((wrap64 (s0_1 + a1)) - a1)) : Int).toNat ((wrap64 (s0_1 + a1)) : Int).toNat, s0_0, wrap64 (s0_1 + a1), false)) else (none)) else (none)) else (none))) = some (r1, r2, r3, r4) := by rw [if_neg (show ¬ (false = true) by decide)] at H; exact H
  clear H
  have H := H1
  clear H1
  by_cases c5 : a1 > (wrap64 ((s0_0.size : Int) - s0_1))
  ·rw [if_pos c5] at H
   have c5b0 : decide ((wrap64 ((s0_0.size : Int) - s0_1)) < a1) = true := decide_eq_true c5
   have c5b1 : decide (a1 ≤ (wrap64 ((s0_0.size : Int) - s0_1))) = false := decide_eq_false (by omega)
   clear c5
   simp only [Option.some.injEq, Prod.mk.injEq] at H
   obtain ⟨rfl, rfl, rfl, rfl⟩ := H
   obtain ⟨HGz6, hgz6⟩ := HI0.out
   have hcz6_0 := cellS121_0 HGz6
   have hcz6_1 := cellS121_1 HGz6
   have hcz6_2 := cellS121_2 HGz6
   have hfz6_0 := blk_frozen HGz6 0
   have hfz6_1 := blk_frozen HGz6 1
   have hfz6_2 := blk_frozen HGz6 2
   clear HGz6 hgz6
   go_enter Tryz.func116, Tryz.ntmps116
   go_wp2
   repeat (go_quiet (fail); try go_wp2)
   go_ret
   exact ⟨by first | rfl | (simp [errW_none, errW_some] <;> rfl) | (simp [*, errW_none, errW_some] <;> rfl), by repeat (first | (with_reducible first | exact HI0.out | apply IsS121.alloc | apply IsS121.drewN | apply IsS121.drew | apply IsS121.set_0 | apply IsS121.set_1 | apply IsS121.set_2) | exact HI0.out), by repeat (first | (with_reducible first | exact HB.out | apply below_alloc | apply pw_below_drewN | apply below_drew1 | refine below_set ?_ (IsS121.ge HI0.out)) | exact HB.out), by repeat (first | (with_reducible first | exact HK.out | apply KeepBut.set_ | apply keep_drewN | apply keep_drew | apply keep_alloc) | exact HK.out)⟩
  ·rw [if_neg c5] at H
   have c5b0 : decide ((wrap64 ((s0_0.size : Int) - s0_1)) < a1) = false := decide_eq_false c5
   have c5b1 : decide (a1 ≤ (wrap64 ((s0_0.size : Int) - s0_1))) = true := decide_eq_true (by omega)
   clear c5
   obtain ⟨ji7, hji7⟩ : ∃ j_ : Int, (wrap64 ((wrap64 (s0_1 + a1)) - a1)) = j_ := ⟨_, rfl⟩
   replace H : (if 0 ≤ (ji7) then (if (ji7) ≤ (wrap64 (s0_1 + a1)) then (if (wrap64 (s0_1 + a1)) ≤ (s0_0.size : Int) then (some (s0_0.extract ((ji7) : Int).toNat ((wrap64 (s0_1 + a1)) : Int).toNat, s0_0, wrap64 (s0_1 + a1), false)) else (none)) else (none)) else (none)) = some (r1, r2, r3, r4) := by first | (rw [hji7] at H; exact H) | (simp only [hji7] at H ⊢; exact H)
   have hji7w : (IntKind.i64.wrap ((wrap64 (s0_1 + a1)) - a1)) = ji7 := (i64_w _).trans hji7
   by_cases c8 : 0 ≤ (ji7)
   ·rw [if_pos c8] at H
    have c8b0 := eq_true c8
    have c8b1 : decide (0 ≤ (ji7)) = true := decide_eq_true c8
    clear c8
    by_cases c9 : (ji7) ≤ (wrap64 (s0_1 + a1))
    ·rw [if_pos c9] at H
     have c9b0 := eq_true c9
     have c9b1 : decide ((ji7) ≤ (wrap64 (s0_1 + a1))) = true := decide_eq_true c9
     by_cases c10 : (wrap64 (s0_1 + a1)) ≤ (s0_0.size : Int)
     ·rw [if_pos c10] at H
      have c10b0 := eq_true c10
      have c10b1 : decide ((wrap64 (s0_1 + a1)) ≤ (s0_0.size : Int)) = true := decide_eq_true c10
      simp only [Option.some.injEq, Prod.mk.injEq] at H
      obtain ⟨rfl, rfl, rfl, rfl⟩ := H
      obtain ⟨HGz11, hgz11⟩ := HI0.out
      have hcz11_0 := cellS121_0 HGz11
      have hcz11_1 := cellS121_1 HGz11
      have hcz11_2 := cellS121_2 HGz11
      have hfz11_0 := blk_frozen HGz11 0
      have hfz11_1 := blk_frozen HGz11 1
      have hfz11_2 := blk_frozen HGz11 2
      clear HGz11 hgz11
      go_enter Tryz.func116, Tryz.ntmps116
      go_wp2
      repeat (go_quiet (fail); try go_wp2)
      go_ret
      exact ⟨by first | rfl | (simp [errW_none, errW_some] <;> rfl) | (simp only [← hji7]; first | rfl | (simp [errW_none, errW_some] <;> rfl)) | (simp [*, errW_none, errW_some] <;> rfl), by repeat (first | (with_reducible first | exact HI0.out | apply IsS121.alloc | apply IsS121.drewN | apply IsS121.drew | apply IsS121.set_0 | apply IsS121.set_1 | apply IsS121.set_2) | exact HI0.out), by repeat (first | (with_reducible first | exact HB.out | apply below_alloc | apply pw_below_drewN | apply below_drew1 | refine below_set ?_ (IsS121.ge HI0.out)) | exact HB.out), by repeat (first | (with_reducible first | exact HK.out | apply KeepBut.set_ | apply keep_drewN | apply keep_drew | apply keep_alloc) | exact HK.out)⟩
     ·rw [if_neg c10] at H
      exact absurd H (by simp)
    ·rw [if_neg c9] at H
     exact absurd H (by simp)
   ·rw [if_neg c8] at H
    exact absurd H (by simp)

/-! ### spec_l05ReadShort: function 107 -/
def spec_l05ReadShort.f (k : Nat) (s0_0 : ByteArray) (s0_1 : Int) (s0_2 : Bool) : Option (ByteArray × ByteArray × Int × Bool) := (spec_l05Var.f k s0_0 s0_1 s0_2).bind fun bt186 => ((spec_l05Take.f bt186.2.1 bt186.2.2.1 bt186.2.2.2 bt186.1).bind fun bt190 => (some (bt190.1, bt190.2.1, bt190.2.2.1, bt190.2.2.2)))
theorem spec_l05ReadShort.mono : ∀ a0 a1 a2 k, LeO (spec_l05ReadShort.f k a0 a1 a2) (spec_l05ReadShort.f (k + 1) a0 a1 a2) := by
 intro a0 a1 a2 k
 unfold spec_l05ReadShort.f
 repeat' first
   | (with_reducible exact spec_l05Var.mono _ _ _ _)
   | (with_reducible exact LeO.refl _)
   | (with_reducible exact LeO.none _)
   | (with_reducible refine LeO.ite ?_ ?_)
   | (with_reducible refine LeO.bind ?_ (fun _ => ?_))
   | exact spec_l05Var.mono _ _ _ _
   | exact LeO.none _
   | refine LeO.ite ?_ ?_
   | refine LeO.bind ?_ (fun _ => ?_)
set_option maxHeartbeats 8000000 in
set_option maxRecDepth 100000 in
theorem spec_l05ReadShort.calls (k : Nat) (g : Nat) (s0_0 : ByteArray) (s0_1 : Int) (s0_2 : Bool) (r1 : ByteArray) (r2 : ByteArray) (r3 : Int) (r4 : Bool) (w0 w : World) (hI : IsS121 w0 w g s0_0 s0_1 s0_2) (hB : Below w0.heap.size w0 w) (h : spec_l05ReadShort.f k s0_0 s0_1 s0_2 = some (r1, r2, r3, r4)) :
  Calls Tryz.prog 107 #[.pointer (some ⟨g, 0, none⟩)] w fun e w' => e = .returned (.string r1) ∧ IsS121 w0 w' g r2 r3 r4 ∧ Below w0.heap.size w0 w' ∧ KeepBut w w' g none := by
 have HI0 := Aside0.mk hI
 have HK := Aside0.mk (KeepBut.refl w g none)
 have HL := Aside0.mk hB.size
 clear hI
 have HW0 := Aside0.mk hB.size
 have HB := Aside0.mk hB
 clear hB
 have H : ((spec_l05Var.f k s0_0 s0_1 s0_2).bind fun bt186 => ((spec_l05Take.f bt186.2.1 bt186.2.2.1 bt186.2.2.2 bt186.1).bind fun bt190 => (some (bt190.1, bt190.2.1, bt190.2.2.1, bt190.2.2.2)))) = some (r1, r2, r3, r4) := h
 clear h
 replace H := Option.bind_eq_some_iff.mp H
 obtain ⟨⟨t186, t187, t188, t189⟩, A20, H⟩ := H
 try dsimp only at H
 have A2 := Aside0.mk A20
 clear A20
 replace H := Option.bind_eq_some_iff.mp H
 obtain ⟨⟨t190, t191, t192, t193⟩, A30, H⟩ := H
 try dsimp only at H
 have A3 := Aside0.mk A30
 clear A30
 simp only [Option.some.injEq, Prod.mk.injEq] at H
 obtain ⟨rfl, rfl, rfl, rfl⟩ := H
 go_enter Tryz.func107, Tryz.ntmps107
 go_wp2_with (first | ((with_reducible refine gate_callee (f := 105) rfl ?_); refine goesL_ (some 5) rfl rfl Tryz.func105 (by kernel_rfl) rfl #[.pointer (some ⟨g, 0, none⟩)] rfl zr ?_; (with_reducible refine (spec_l05Var.calls k g s0_0 s0_1 s0_2 t186 t187 t188 t189 w0 _ ?side1 ?side2 A2.out).mono ?_); (case side1 => repeat (first | (with_reducible first | exact HI0.out | apply IsS121.alloc | apply IsS121.drewN | apply IsS121.drew | apply IsS121.set_0 | apply IsS121.set_1 | apply IsS121.set_2) | exact HI0.out)); (case side2 => repeat (first | (with_reducible first | exact HB.out | apply below_alloc | apply pw_below_drewN | apply below_drew1 | refine below_set ?_ (IsS121.ge HI0.out)) | exact HB.out)); rintro e w4 ⟨rfl, hi, hb, hk⟩; refine ⟨_, rfl, ?_⟩; replace HK := am (KeepBut.trans (by repeat (first | (with_reducible first | exact HK.out | apply KeepBut.set_ | apply keep_drewN | apply keep_drew | apply keep_alloc) | exact HK.out)) hk (.inl rfl)); replace HB := am (hb); replace HI0 := am (hi); clear hb hk hi) | ((with_reducible refine gate_callee (f := 116) rfl ?_); refine goesL_ (some 8) rfl rfl Tryz.func116 (by kernel_rfl) rfl #[.pointer (some ⟨g, 0, none⟩), .int .i64 t186] rfl zr ?_; (with_reducible refine (spec_l05Take.calls g t187 t188 t189 t186 t190 t191 t192 t193 w0 _ ?side1 ?side2 A3.out).mono ?_); (case side1 => repeat (first | (with_reducible first | exact HI0.out | apply IsS121.alloc | apply IsS121.drewN | apply IsS121.drew | apply IsS121.set_0 | apply IsS121.set_1 | apply IsS121.set_2) | exact HI0.out)); (case side2 => repeat (first | (with_reducible first | exact HB.out | apply below_alloc | apply pw_below_drewN | apply below_drew1 | refine below_set ?_ (IsS121.ge HI0.out)) | exact HB.out)); rintro e w5 ⟨rfl, hi, hb, hk⟩; refine ⟨_, rfl, ?_⟩; replace HK := am (KeepBut.trans (by repeat (first | (with_reducible first | exact HK.out | apply KeepBut.set_ | apply keep_drewN | apply keep_drew | apply keep_alloc) | exact HK.out)) hk (.inl rfl)); replace HB := am (hb); replace HI0 := am (hi); clear hb hk hi))
 go_ret
 exact ⟨by first | rfl | (simp [errW_none, errW_some] <;> rfl) | (simp [*, errW_none, errW_some] <;> rfl), by repeat (first | (with_reducible first | exact HI0.out | apply IsS121.alloc | apply IsS121.drewN | apply IsS121.drew | apply IsS121.set_0 | apply IsS121.set_1 | apply IsS121.set_2) | exact HI0.out), by repeat (first | (with_reducible first | exact HB.out | apply below_alloc | apply pw_below_drewN | apply below_drew1 | refine below_set ?_ (IsS121.ge HI0.out)) | exact HB.out), by repeat (first | (with_reducible first | exact HK.out | apply KeepBut.set_ | apply keep_drewN | apply keep_drew | apply keep_alloc) | exact HK.out)⟩

/-! ### spec_ReadSnap: function 65, by hand -/ -- rounds making
/-- What stands while ReadSnap goes on: the cursor in block g, the snapshot to be answered (nothing yet) in b1, the snapshot that is read in b3. -/
structure spec_ReadSnap.Inv (w W : World) (b1 g b3 : Nat) (t : ByteArray) (a : Int) (bad : Bool) (x y : Int) (u : Value) (z : ByteArray) : Prop where
 st : IsS121 w W g t a bad
 r1 : W.heap[b1]? = some (.cells #[.int .i64 0, .int .i64 0, .slice none 0 0, .string ⟨#[]⟩] 52 (0, 0))
 e3 : W.heap[b3]? = some (.cells #[.int .i64 x, .int .i64 y, u, .string z] 52 (0, 0))
 bl : Below w.heap.size w W
 g1 : w.heap.size ≤ b1
 g3 : w.heap.size ≤ b3
 n1 : b1 ≠ g
 n3 : b3 ≠ g
 n13 : b1 ≠ b3
theorem spec_ReadSnap.Inv.call {w W W' : World} {b1 g b3 : Nat} {t t' : ByteArray} {a a' : Int} {bad bad' : Bool} {x y : Int} {u : Value} {z : ByteArray} (h : spec_ReadSnap.Inv w W b1 g b3 t a bad x y u z) (hs : IsS121 w W' g t' a' bad') (hb : Below w.heap.size w W') (hk : KeepBut W W' g none) : spec_ReadSnap.Inv w W' b1 g b3 t' a' bad' x y u z := ⟨hs, hk.blk h.r1 h.n1 (by simp), hk.blk h.e3 h.n3 (by simp), hb, h.g1, h.g3, h.n1, h.n3, h.n13⟩
theorem spec_ReadSnap.Inv.below {w W W' : World} {b1 g b3 : Nat} {t : ByteArray} {a : Int} {bad : Bool} {x y : Int} {u : Value} {z : ByteArray} (h : spec_ReadSnap.Inv w W b1 g b3 t a bad x y u z) (hb : Below W.heap.size W W') : spec_ReadSnap.Inv w W' b1 g b3 t a bad x y u z := ⟨h.st.below hb, blk_below h.r1 hb, blk_below h.e3 hb, below_step h.bl hb, h.g1, h.g3, h.n1, h.n3, h.n13⟩
theorem spec_ReadSnap.Inv.set0 {w W : World} {b1 g b3 : Nat} {t : ByteArray} {a : Int} {bad : Bool} {x y : Int} {u : Value} {z : ByteArray} (h : spec_ReadSnap.Inv w W b1 g b3 t a bad x y u z) (v : Int) : spec_ReadSnap.Inv w (W.setCell ⟨b3, 0, none⟩ (.int .i64 v)) b1 g b3 t a bad v y u z := ⟨h.st.far (Ne.symm h.n3) _, blk_far h.r1 h.n13 _, blk_put h.e3 0 _ rfl, below_set h.bl h.g3, h.g1, h.g3, h.n1, h.n3, h.n13⟩
theorem spec_ReadSnap.Inv.set1 {w W : World} {b1 g b3 : Nat} {t : ByteArray} {a : Int} {bad : Bool} {x y : Int} {u : Value} {z : ByteArray} (h : spec_ReadSnap.Inv w W b1 g b3 t a bad x y u z) (v : Int) : spec_ReadSnap.Inv w (W.setCell ⟨b3, 1, none⟩ (.int .i64 v)) b1 g b3 t a bad x v u z := ⟨h.st.far (Ne.symm h.n3) _, blk_far h.r1 h.n13 _, blk_put h.e3 1 _ rfl, below_set h.bl h.g3, h.g1, h.g3, h.n1, h.n3, h.n13⟩
theorem spec_ReadSnap.Inv.set2 {w W : World} {b1 g b3 : Nat} {t : ByteArray} {a : Int} {bad : Bool} {x y : Int} {u : Value} {z : ByteArray} (h : spec_ReadSnap.Inv w W b1 g b3 t a bad x y u z) (v : Value) : spec_ReadSnap.Inv w (W.setCell ⟨b3, 2, none⟩ (v)) b1 g b3 t a bad x y v z := ⟨h.st.far (Ne.symm h.n3) _, blk_far h.r1 h.n13 _, blk_put h.e3 2 _ rfl, below_set h.bl h.g3, h.g1, h.g3, h.n1, h.n3, h.n13⟩
theorem spec_ReadSnap.Inv.set3 {w W : World} {b1 g b3 : Nat} {t : ByteArray} {a : Int} {bad : Bool} {x y : Int} {u : Value} {z : ByteArray} (h : spec_ReadSnap.Inv w W b1 g b3 t a bad x y u z) (v : ByteArray) : spec_ReadSnap.Inv w (W.setCell ⟨b3, 3, none⟩ (.string v)) b1 g b3 t a bad x y u v := ⟨h.st.far (Ne.symm h.n3) _, blk_far h.r1 h.n13 _, blk_put h.e3 3 _ rfl, below_set h.bl h.g3, h.g1, h.g3, h.n1, h.n3, h.n13⟩
def spec_ReadSnap.Row (w W : World) (b1 g b3 : Nat) (v : Value) (xs : List Int) : Prop := Kd.R (Kd.int .i64) 3 W w.heap.size (fun k => k ≠ b1 ∧ k ≠ b3 ∧ k ≠ g) v xs
theorem spec_ReadSnap.Row.call {w W W' : World} {b1 g b3 : Nat} {v : Value} {xs : List Int} (h : spec_ReadSnap.Row w W b1 g b3 v xs) (hk : KeepBut W W' g none) : spec_ReadSnap.Row w W' b1 g b3 v xs := Kd.R_keep h hk (fun _ q => q.2.2)
theorem spec_ReadSnap.Row.below {w W W' : World} {b1 g b3 : Nat} {v : Value} {xs : List Int} (h : spec_ReadSnap.Row w W b1 g b3 v xs) (hb : Below W.heap.size W W') : spec_ReadSnap.Row w W' b1 g b3 v xs := Kd.R_below h hb
theorem spec_ReadSnap.Row.sete {w W : World} {b1 g b3 : Nat} {v : Value} {xs : List Int} (h : spec_ReadSnap.Row w W b1 g b3 v xs) (j : Nat) (u : Value) : spec_ReadSnap.Row w (W.setCell ⟨b3, j, none⟩ u) b1 g b3 v xs := Kd.R_far h (fun _ q => q.2.1) u
theorem spec_ReadSnap.Row.setr {w W : World} {b1 g b3 : Nat} {v : Value} {xs : List Int} (h : spec_ReadSnap.Row w W b1 g b3 v xs) (j : Nat) (u : Value) : spec_ReadSnap.Row w (W.setCell ⟨b1, j, none⟩ u) b1 g b3 v xs := Kd.R_far h (fun _ q => q.1) u
theorem spec_ReadSnap.Row.mk_ {w W W' : World} {b1 g b3 : Nat} {t : ByteArray} {a : Int} {bad : Bool} {x y : Int} {u : Value} {z : ByteArray} {v : Value} {xs : List Int} (hi : spec_ReadSnap.Inv w W' b1 g b3 t a bad x y u z) (h : Kd.R (Kd.int .i64) 3 W' W.heap.size (fun _ => True) v xs) (hle : w.heap.size ≤ W.heap.size) : spec_ReadSnap.Row w W' b1 g b3 v xs :=
 Kd.R_mono (Kd.R_types (Kd.R_types (Kd.R_types (Kd.R_lower h hle) hi.r1 (by decide)) hi.e3 (by decide)) hi.st.1 (by decide)) (fun _ q => ⟨q.1.1.2, q.1.2, q.2⟩)
def spec_ReadSnap.f (k : Nat) (a0 : ByteArray) : Option (Int × Int × List Int × ByteArray × Bool) :=
 (spec_Unsealed.f k a0).bind fun p0 => (spec_l05Var.f k p0.1 0 (!p0.2)).bind fun p1 => (spec_l05Var.f k p1.2.1 p1.2.2.1 p1.2.2.2).bind fun p2 => (spec_l05ReadShort.f k p2.2.1 p2.2.2.1 p2.2.2.2).bind fun p3 => (spec_ReadConf.f k p3.1).bind fun q => (spec_l05ReadShort.f k p3.2.1 p3.2.2.1 p3.2.2.2).bind fun p4 =>
 (spec_SnapText.f k p1.1 p2.1 q.1 p4.1).bind fun z => (if p4.2.2.2 = true then some (0, 0, ([] : List Int), (⟨#[]⟩ : ByteArray), false) else (if z.2 = true then (if z.1.toList = a0.toList then some (p1.1, p2.1, q.1, p4.1, true) else some (0, 0, ([] : List Int), (⟨#[]⟩ : ByteArray), false)) else some (0, 0, ([] : List Int), (⟨#[]⟩ : ByteArray), false)))
theorem spec_ReadSnap.mono : ∀ a0 k, LeO (spec_ReadSnap.f k a0) (spec_ReadSnap.f (k + 1) a0) := by
 intro a0 k
 unfold spec_ReadSnap.f
 repeat' first
   | (with_reducible exact spec_Unsealed.mono _ _)
   | (with_reducible exact spec_l05Var.mono _ _ _ _)
   | (with_reducible exact spec_l05ReadShort.mono _ _ _ _)
   | (with_reducible exact spec_ReadConf.mono _ _)
   | (with_reducible exact spec_SnapText.mono _ _ _ _ _)
   | (with_reducible exact LeO.refl _)
   | (with_reducible exact LeO.none _)
   | (with_reducible refine LeO.ite ?_ ?_)
   | (with_reducible refine LeO.bind ?_ (fun _ => ?_))
set_option maxHeartbeats 4000000 in
set_option maxRecDepth 100000 in
theorem spec_ReadSnap.calls (k : Nat) (a0 : ByteArray) (r1 : Int) (r2 : Int) (r3 : List Int) (r4 : ByteArray) (r5 : Bool) (w : World) (h : spec_ReadSnap.f k a0 = some (r1, r2, r3, r4, r5)) :
  Calls Tryz.prog 65 #[.string a0] w fun e w' => ∃ v2_ : Value, e = .returned (.tuple #[.agg #[.int .i64 r1, .int .i64 r2, v2_, .string r4], .bool r5]) ∧ Kd.R (Kd.int .i64) 3 w' w.heap.size (fun _ => True) v2_ r3 ∧ Below w.heap.size w w' := by
 unfold spec_ReadSnap.f at h
 obtain ⟨⟨x0, ok⟩, h0, h⟩ := Option.bind_eq_some_iff.mp h
 obtain ⟨⟨x1, t1, a1, b1⟩, h1, h⟩ := Option.bind_eq_some_iff.mp h
 obtain ⟨⟨x2, t2, a2, b2⟩, h2, h⟩ := Option.bind_eq_some_iff.mp h
 obtain ⟨⟨x3, t3, a3, b3⟩, h3, h⟩ := Option.bind_eq_some_iff.mp h
 obtain ⟨⟨xs, okc⟩, hq, h⟩ := Option.bind_eq_some_iff.mp h
 obtain ⟨⟨x4, t4, a4, b4⟩, h4, h⟩ := Option.bind_eq_some_iff.mp h
 obtain ⟨⟨z, okz⟩, hz, h⟩ := Option.bind_eq_some_iff.mp h
 simp only at h0 h1 h2 h3 h4 hq hz h
 have A0 := Aside0.mk h0
 have A1 := Aside0.mk h1
 have A2 := Aside0.mk h2
 have A3 := Aside0.mk h3
 have A4 := Aside0.mk h4
 have AQ := Aside0.mk hq
 have AZ := Aside0.mk hz
 have H := Aside0.mk h
 clear h0 h1 h2 h3 h4 hq hz h
 have no_ : (some (0, 0, ([] : List Int), (⟨#[]⟩ : ByteArray), false) = some (r1, r2, r3, r4, r5)) → r1 = 0 ∧ r2 = 0 ∧ r3 = [] ∧ r4 = ⟨#[]⟩ ∧ r5 = false := fun h => by simp only [Option.some.injEq, Prod.mk.injEq] at h; exact ⟨h.1.symm, h.2.1.symm, h.2.2.1.symm, h.2.2.2.1.symm, h.2.2.2.2.symm⟩
 have NO := Aside0.mk no_
 clear no_
 go_enter Tryz.func65, Tryz.ntmps65
 go_wp2_with (first | ((with_reducible refine gate_dst (N := 2) rfl ?_); refine box_event rfl (N := 2) rfl (cs := #[.int .i64 0, .int .i64 0, .slice none 0 0, .string (⟨#[]⟩ : ByteArray)]) (t := 52) zrun ?_; intro r hg w_r hbox hb; have Yr := Aside0.mk hbox; have Zr := Aside0.mk hb; have Gr := Aside0.mk hg; clear hbox hb hg) | (go_at_call 104; refine (spec_Unsealed.calls k a0 x0 ok _ A0.out).mono ?_; rintro e_ w_u ⟨rfl, hb⟩; have Yr2 := Aside0.mk (blk_below Yr.out hb); have Zr2 := Aside0.mk (below_step (below_step (Below.refl _ _) Zr.out) hb); clear hb Yr) | ((with_reducible refine gate_dst (N := 19) rfl ?_); refine box_event rfl (N := 19) rfl (cs := #[.string x0, .int .i64 0, .bool (!ok)]) (t := 121) zrun ?_; intro g hg w_g hbox hb; have Yg := Aside0.mk hbox; have Zg := Aside0.mk hb; have Gg := Aside0.mk hg; clear hbox hb hg) | ((with_reducible refine gate_dst (N := 7) rfl ?_); refine box_event rfl (N := 7) rfl (cs := #[.int .i64 0, .int .i64 0, .slice none 0 0, .string (⟨#[]⟩ : ByteArray)]) (t := 52) zrun ?_; intro e hg w_e hbox hb; have Ye := Aside0.mk hbox; have Ze := Aside0.mk hb; have Ge := Aside0.mk hg; clear hbox hb hg; have J0 := Aside0.mk (show spec_ReadSnap.Inv w w_e r g e x0 0 (!ok) 0 0 (.slice none 0 0) ⟨#[]⟩ from ⟨⟨blk_below Yg.out Ze.out, by rw [Gg.out]; exact Zr2.out.size⟩, blk_below (blk_below Yr2.out Zg.out) Ze.out, Ye.out, below_step (below_step Zr2.out Zg.out) Ze.out, Nat.le_of_eq Gr.out.symm, by rw [Ge.out]; exact Nat.le_trans Zr2.out.size Zg.out.size, by rw [Gg.out]; exact Nat.ne_of_lt (blk_lt Yr2.out), by rw [Ge.out]; exact Nat.ne_of_gt (blk_lt Yg.out), by rw [Ge.out]; exact Nat.ne_of_lt (Nat.lt_of_lt_of_le (blk_lt Yr2.out) Zg.out.size)⟩); clear Yr2 Zr Zr2 Gr Yg Zg Gg Ye Ze Ge; have c0 := blk_cell J0.out.e3 0; have c1 := blk_cell J0.out.e3 1; have c2 := blk_cell J0.out.e3 2; have c3 := blk_cell J0.out.e3 3; simp only [List.getElem?_toArray, List.getElem?_cons_zero, List.getElem?_cons_succ] at c0 c1 c2 c3; have f0 := blk_frozen J0.out.e3 0; have f1 := blk_frozen J0.out.e3 1; have f2 := blk_frozen J0.out.e3 2; have f3 := blk_frozen J0.out.e3 3))
 have K0 := Aside0.mk ((((J0.out.set0 0).set1 0).set2 (.slice none 0 0)).set3 ⟨#[]⟩)
 clear J0 c0 c1 c2 c3 f0 f1 f2 f3
 refine (spec_l05Var.calls k g x0 0 (!ok) x1 t1 a1 b1 w _ K0.out.st K0.out.bl A1.out).mono ?_
 rintro e_ w1 ⟨rfl, hs, hb, hk⟩
 have K1 := Aside0.mk (K0.out.call hs hb hk)
 clear hs hb hk K0 A1
 have c0 := blk_cell K1.out.e3 0
 simp only [List.getElem?_toArray, List.getElem?_cons_zero, List.getElem?_cons_succ] at c0
 have f0 := blk_frozen K1.out.e3 0
 go_wp2_with fail
 have K1b := Aside0.mk (K1.out.set0 x1)
 clear K1 c0 f0
 refine (spec_l05Var.calls k g t1 a1 b1 x2 t2 a2 b2 w _ K1b.out.st K1b.out.bl A2.out).mono ?_
 rintro e_ w2 ⟨rfl, hs, hb, hk⟩
 have K2 := Aside0.mk (K1b.out.call hs hb hk)
 clear hs hb hk K1b A2
 have c1 := blk_cell K2.out.e3 1
 simp only [List.getElem?_toArray, List.getElem?_cons_zero, List.getElem?_cons_succ] at c1
 have f1 := blk_frozen K2.out.e3 1
 go_wp2_with fail
 have K2b := Aside0.mk (K2.out.set1 x2)
 clear K2 c1 f1
 refine (spec_l05ReadShort.calls k g t2 a2 b2 x3 t3 a3 b3 w _ K2b.out.st K2b.out.bl A3.out).mono ?_
 rintro e_ w3 ⟨rfl, hs, hb, hk⟩
 have K3 := Aside0.mk (K2b.out.call hs hb hk)
 clear hs hb hk K2b A3
 go_wp2_with fail
 refine (spec_ReadConf.calls k x3 xs okc _ AQ.out).mono ?_
 rintro e_ w4 ⟨v, rfl, hr, hb⟩
 have K4 := Aside0.mk (K3.out.below hb)
 have V4 := Aside0.mk (spec_ReadSnap.Row.mk_ K4.out hr K3.out.bl.size)
 clear hr hb K3 AQ
 obtain ⟨A_, c_, ev⟩ := Kd.R_slice V4.out
 subst ev
 have c2 := blk_cell K4.out.e3 2
 simp only [List.getElem?_toArray, List.getElem?_cons_zero, List.getElem?_cons_succ] at c2
 have f2 := blk_frozen K4.out.e3 2
 go_wp2_with fail
 have K4b := Aside0.mk (K4.out.set2 (.slice A_ xs.length c_))
 have V4b := Aside0.mk (V4.out.sete 2 (.slice A_ xs.length c_))
 clear K4 V4 c2 f2
 refine (spec_l05ReadShort.calls k g t3 a3 b3 x4 t4 a4 b4 w _ K4b.out.st K4b.out.bl A4.out).mono ?_
 rintro e_ w5 ⟨rfl, hs, hb, hk⟩
 have K5 := Aside0.mk (K4b.out.call hs hb hk)
 have V5 := Aside0.mk (V4b.out.call hk)
 clear hs hb hk K4b A4 V4b
 have c0 := blk_cell K5.out.e3 0
 have c1 := blk_cell K5.out.e3 1
 have c2 := blk_cell K5.out.e3 2
 have c3 := blk_cell K5.out.e3 3
 simp only [List.getElem?_toArray, List.getElem?_cons_zero, List.getElem?_cons_succ] at c0 c1 c2 c3
 have f0 := blk_frozen K5.out.e3 0
 have f1 := blk_frozen K5.out.e3 1
 have f2 := blk_frozen K5.out.e3 2
 have f3 := blk_frozen K5.out.e3 3
 go_wp2_with fail
 have K5b := Aside0.mk (K5.out.set3 x4)
 have V5b := Aside0.mk (V5.out.sete 3 (.string x4))
 clear K5 V5 c0 c1 c2 c3 f0 f1 f2 f3
 refine (spec_SnapText.calls k x1 x2 A_ c_ xs x4 z okz _ (Kd.R_reads' V5b.out).2.2 (Kd.R_reads' V5b.out).2.1 AZ.out).mono ?_
 rintro e_ w6 ⟨rfl, hb⟩
 have K6 := Aside0.mk (K5b.out.below hb)
 have V6 := Aside0.mk (V5b.out.below hb)
 clear hb K5b V5b AZ
 have s2 := blk_cell K6.out.st.1 2
 simp only [List.getElem?_toArray, List.getElem?_cons_zero, List.getElem?_cons_succ] at s2
 have c0 := blk_cell K6.out.e3 0
 have c1 := blk_cell K6.out.e3 1
 have c2 := blk_cell K6.out.e3 2
 have c3 := blk_cell K6.out.e3 3
 simp only [List.getElem?_toArray, List.getElem?_cons_zero, List.getElem?_cons_succ] at c0 c1 c2 c3
 have f0 := blk_frozen K6.out.e3 0
 have f1 := blk_frozen K6.out.e3 1
 have f2 := blk_frozen K6.out.e3 2
 have f3 := blk_frozen K6.out.e3 3
 have d0 := blk_cell K6.out.r1 0
 have d1 := blk_cell K6.out.r1 1
 have d2 := blk_cell K6.out.r1 2
 have d3 := blk_cell K6.out.r1 3
 simp only [List.getElem?_toArray, List.getElem?_cons_zero, List.getElem?_cons_succ] at d0 d1 d2 d3
 have g0 := blk_frozen K6.out.r1 0
 have g1 := blk_frozen K6.out.r1 1
 have g2 := blk_frozen K6.out.r1 2
 have g3 := blk_frozen K6.out.r1 3
 cases b4 with
 | true =>
  obtain ⟨rfl, rfl, rfl, rfl, rfl⟩ := NO.out (by have h_ := H.out; simpa using h_)
  clear NO
  go_wp2
  refine bodyPost_ret (results_list (rs := [.cell 2 52, .tmp 3]) rfl (by simp) (.cell r 52 #[.int .i64 0, .int .i64 0, .slice none 0 0, .string (⟨#[]⟩ : ByteArray)] (0, 0) _ rfl (blk_put (blk_put (blk_put (blk_put K6.out.r1 0 _ rfl) 1 _ rfl) 2 _ rfl) 3 _ rfl) Tryz.underlying52 rfl (by kernel_rfl) (.tmp .nil))) rfl ?_
  exact ⟨_, rfl, Kd.R_nil _ _ _ _ _, below_set (below_set (below_set (below_set (K6.out.bl) K6.out.g1) K6.out.g1) K6.out.g1) K6.out.g1⟩
 | false =>
  cases okz with
  | false =>
   obtain ⟨rfl, rfl, rfl, rfl, rfl⟩ := NO.out (by have h_ := H.out; simpa using h_)
   clear NO
   go_wp2
   refine bodyPost_ret (results_list (rs := [.cell 2 52, .tmp 3]) rfl (by simp) (.cell r 52 #[.int .i64 0, .int .i64 0, .slice none 0 0, .string (⟨#[]⟩ : ByteArray)] (0, 0) _ rfl (blk_put (blk_put (blk_put (blk_put K6.out.r1 0 _ rfl) 1 _ rfl) 2 _ rfl) 3 _ rfl) Tryz.underlying52 rfl (by kernel_rfl) (.tmp .nil))) rfl ?_
   exact ⟨_, rfl, Kd.R_nil _ _ _ _ _, below_set (below_set (below_set (below_set (K6.out.bl) K6.out.g1) K6.out.g1) K6.out.g1) K6.out.g1⟩
  | true =>
   have H1 := H.out
   simp only [Bool.false_eq_true, if_false, if_true] at H1
   by_cases i3 : z.toList = a0.toList
   ·rw [if_pos i3] at H1
    simp only [Option.some.injEq, Prod.mk.injEq] at H1
    obtain ⟨rfl, rfl, rfl, rfl, rfl⟩ := H1
    have i3a : (z.toList == a0.toList) = true := by simpa using i3
    have i3b : (z.toList != a0.toList) = false := by simpa using i3
    clear NO H i3
    go_wp2
    refine bodyPost_ret (results_list (rs := [.cell 2 52, .tmp 3]) rfl (by simp) (.cell r 52 #[.int .i64 x1, .int .i64 x2, .slice A_ xs.length c_, .string x4] (0, 0) _ rfl (blk_put (blk_put (blk_put (blk_put K6.out.r1 0 _ rfl) 1 _ rfl) 2 _ rfl) 3 _ rfl) Tryz.underlying52 rfl (by kernel_rfl) (.tmp .nil))) rfl ?_
    exact ⟨_, rfl, Kd.R_mono (((((V6.out.setr 0 _).setr 1 _).setr 2 _).setr 3 _)) (fun _ _ => trivial), below_set (below_set (below_set (below_set (K6.out.bl) K6.out.g1) K6.out.g1) K6.out.g1) K6.out.g1⟩
   ·rw [if_neg i3] at H1
    obtain ⟨rfl, rfl, rfl, rfl, rfl⟩ := NO.out H1
    have i3a : (z.toList == a0.toList) = false := by simpa using i3
    have i3b : (z.toList != a0.toList) = true := by simpa using i3
    clear NO H H1 i3
    go_wp2
    refine bodyPost_ret (results_list (rs := [.cell 2 52, .tmp 3]) rfl (by simp) (.cell r 52 #[.int .i64 0, .int .i64 0, .slice none 0 0, .string (⟨#[]⟩ : ByteArray)] (0, 0) _ rfl (blk_put (blk_put (blk_put (blk_put K6.out.r1 0 _ rfl) 1 _ rfl) 2 _ rfl) 3 _ rfl) Tryz.underlying52 rfl (by kernel_rfl) (.tmp .nil))) rfl ?_
    exact ⟨_, rfl, Kd.R_nil _ _ _ _ _, below_set (below_set (below_set (below_set (K6.out.bl) K6.out.g1) K6.out.g1) K6.out.g1) K6.out.g1⟩

end Go.Proofs.YtogifkjkbfdocaaGreatDoor.QFnExactShedActs
