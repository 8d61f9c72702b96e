/- Written by the kit's print.py, called by our own print2.sh with one import more; not by print.sh. -/
import Derived.Test.YtogifkjkbfdocaaGreatDoorQFnExactShedActsx0
import Derived.Test.YtogifkjkbfdocaaGreatDoorQFnExactShedActsx9
namespace Go.Proofs.YtogifkjkbfdocaaGreatDoor.QFnExactShedActs
open Go.RowKit Go.Proofs.YtogifkjkbfdocaaGreatDoorW.PrintWords Go.Proofs.YtogifkjkbfdocaaGreatDoorW.PrintLast Go.Proofs.YtogifkjkbfdocaaGreatDoorW.PrintMore
attribute [local go_sem] max2_int min2_int max_two min_two max_three min_three max_four min_four   -- for this text's walks alone
open Go.Proofs.YtogifkjkbfdocaaGreatDoor.Laid
open Go.Proofs.YtogifkjkbfdocaaGreatDoor.Short
set_option linter.unusedVariables false
set_option linter.unusedSimpArgs false

attribute [local go_sem high] gtr_str
-- NOT PRINTED: function 170 (strconv_ParseUint)

-- NOT PRINTED: function 160 (strconv_ParseInt)

-- NOT PRINTED: function 151 (strconv_Atoi_151)

-- NOT PRINTED: function 171 (stringslite_Clone)

-- NOT PRINTED: function 161 (strconv_syntaxError)

-- NOT PRINTED: function 162 (strconv_rangeError)

-- NOT PRINTED: function 172 (errors_New)

-- NOT PRINTED: function 163 (strconv_baseError)

-- NOT PRINTED: function 164 (strconv_bitSizeError)

-- NOT PRINTED: function 152 (strconv_toError)

-- NOT PRINTED: function 125 (strconv_Atoi_125)

/-! ### impl_ReadDecimal: function 81, by hand (over strconv.Atoi's contract) -/ -- making laid
open Go.Proofs.YtogifkjkbfdocaaGreatDoor.Numerals Go.Proofs.YtogifkjkbfdocaaGreatDoor.Laid
def impl_ReadDecimal.f (a0 : ByteArray) : Option (Int × Bool) := if a0.size ≤ 281474976710656 then some (pDec a0) else none
theorem impl_ReadDecimal.calls (a0 : ByteArray) (r1 : Int) (r2 : Bool) (w : World) (h : impl_ReadDecimal.f a0 = some (r1, r2)) (hLW : LaidW w) :
  Calls Tryz.prog 81 #[.string a0] w fun e w' => e = .returned (.tuple #[.int .i64 r1, .bool r2]) ∧ Below w.heap.size w w' := by
 unfold impl_ReadDecimal.f at h
 by_cases c : a0.size ≤ 281474976710656
 ·rw [if_pos c] at h
  have e := Option.some.inj h
  have hI := Laid.impl_ReadDecimal a0 c w hLW
  rw [e] at hI
  exact hI
 ·rw [if_neg c] at h
  cases h

/-! ### impl_numberOf: function 46 -/
def impl_numberOf.j0 : Nat → ByteArray → Int → Bool → Option (Int)
 | 0, _, _, _ => none
 | k + 1, x0, x2, x17 => if x17 = true then (some (-1)) else (if 1 ≤ (x0.size : Int) then ((impl_ReadDecimal.f (x0.extract 1 x0.size)).bind fun bt301 => (if bt301.2 = true then (if bt301.1 > x2 then (some (-1)) else (some bt301.1)) else (some (-1)))) else (none))
def impl_numberOf.f (k : Nat) (a0 : ByteArray) (a1 : ByteArray) (a2 : Int) : Option (Int) := if (a0.size : Int) < 2 then (impl_numberOf.j0 k a0 a2 true) else (if 0 ≤ 1 then (if 1 ≤ (a0.size : Int) then (impl_numberOf.j0 k a0 a2 ((a0.extract 0 1).toList != a1.toList)) else (none)) else (none))
theorem impl_numberOf.mono_l : ∀ k, (∀ y0 y1 y2, LeO (impl_numberOf.j0 k y0 y1 y2) (impl_numberOf.j0 (k + 1) y0 y1 y2))
 | 0 => fun _ _ _ r h => by simp [impl_numberOf.j0] at h
 | k + 1 => by
  have ih0 := impl_numberOf.mono_l k
  ·intro y0 y1 y2
   unfold impl_numberOf.j0
   repeat' first
   | (with_reducible exact ih0 _ _ _)
   | (with_reducible exact LeO.refl _)
   | (with_reducible exact LeO.none _)
   | (with_reducible refine LeO.ite ?_ ?_)
   | (with_reducible refine LeO.bind ?_ (fun _ => ?_))
   | exact ih0 _ _ _
   | exact LeO.none _
   | refine LeO.ite ?_ ?_
   | refine LeO.bind ?_ (fun _ => ?_)
theorem impl_numberOf.mono : ∀ a0 a1 a2 k, LeO (impl_numberOf.f k a0 a1 a2) (impl_numberOf.f (k + 1) a0 a1 a2) := by
 intro a0 a1 a2 k
 have ih0 := impl_numberOf.mono_l k
 unfold impl_numberOf.f
 repeat' first
   | (with_reducible exact ih0 _ _ _)
   | (with_reducible exact LeO.refl _)
   | (with_reducible exact LeO.none _)
   | (with_reducible refine LeO.ite ?_ ?_)
   | (with_reducible refine LeO.bind ?_ (fun _ => ?_))
   | exact ih0 _ _ _
   | exact LeO.none _
   | refine LeO.ite ?_ ?_
   | refine LeO.bind ?_ (fun _ => ?_)
set_option maxHeartbeats 8000000 in
set_option maxRecDepth 100000 in
theorem impl_numberOf.calls (k : Nat) (a0 : ByteArray) (a1 : ByteArray) (a2 : Int) (r : Int) (w : World) (h : impl_numberOf.f k a0 a1 a2 = some r) (hLW : LaidW w) :
  Calls Tryz.prog 46 #[.string a0, .string a1, .int .i64 a2] w fun e w' => e = .returned (.int .i64 r) ∧ Below w.heap.size w w' := by
 have HLW := Aside0.mk hLW
 clear hLW
 have HB := Aside0.mk (Below.refl w.heap.size w)
 have H : (if (a0.size : Int) < 2 then (impl_numberOf.j0 k a0 a2 true) else (if 0 ≤ 1 then (if 1 ≤ (a0.size : Int) then (impl_numberOf.j0 k a0 a2 ((a0.extract 0 1).toList != a1.toList)) else (none)) else (none))) = some r := h
 clear h
 have HC4 := Aside0.mk H
 clear H
 go_enter Tryz.func46, Tryz.ntmps46
 go_upto_region 1 with (fail)
 go_cut [17] (fun v17 wc => ∃ (kq : Nat) (x17_3 : Bool), v17 = .bool x17_3 ∧ Aside0 (impl_numberOf.j0 kq a0 a2 x17_3 = some r) ∧ Aside0 (kq ≤ k) ∧ Aside0 (Below w.heap.size w wc))
 case first =>
  have H := HC4.out
  clear HC4
  by_cases c5 : (a0.size : Int) < 2
  ·rw [if_pos c5] at H
   have c5b0 : decide ((a0.size : Int) < 2) = true := decide_eq_true c5
   have c5b1 : decide (a0.size < 2) = true := decide_eq_true (by omega)
   clear c5
   (first | rw [c5b0] | (simp only [i64_w, i32_w]; rw [c5b0]) | skip)
   have H' := Aside0.mk H
   clear H
   go_wp2
   go_meet
   case rel => exact ⟨_, (true), (by first | rfl | (simp; done) | (simp [*]; done)), H', ⟨by first | omega | exact Nat.le_refl _⟩, ⟨zb0 HB.out⟩⟩
  ·rw [if_neg c5] at H
   have c5b0 : decide ((a0.size : Int) < 2) = false := decide_eq_false c5
   have c5b1 : decide (a0.size < 2) = false := decide_eq_false (by omega)
   clear c5
   (first | rw [c5b0] | (simp only [i64_w, i32_w]; rw [c5b0]) | skip)
   by_cases c6 : 0 ≤ 1
   ·rw [if_pos c6] at H
    have c6b0 := eq_true c6
    have c6b1 : decide (0 ≤ 1) = true := decide_eq_true c6
    clear c6
    by_cases c7 : 1 ≤ (a0.size : Int)
    ·rw [if_pos c7] at H
     have c7b0 := eq_true c7
     have c7b1 : decide (1 ≤ (a0.size : Int)) = true := decide_eq_true c7
     clear c7
     have H' := Aside0.mk H
     clear H
     go_wp2
     go_meet
     case rel => exact ⟨_, (((a0.extract 0 1).toList != a1.toList)), (by first | rfl | (simp; done) | (simp [*]; done)), H', ⟨by first | omega | exact Nat.le_refl _⟩, ⟨zb0 HB.out⟩⟩
    ·rw [if_neg c7] at H
     exact absurd H (by simp)
   ·rw [if_neg c6] at H
    exact absurd H (by simp)
 case rest =>
  clear HC4
  obtain ⟨kq, x17_3, rfl, HA, HJ3, HB⟩ := hcut
  cases kq with
  | zero => exact absurd HA.out (by simp [impl_numberOf.j0])
  | succ kj3 =>
   have H := HA.out
   clear HA
   simp only [impl_numberOf.j0] at H
   by_cases c8 : x17_3 = true
   ·subst c8
    have H1 : (some (-1)) = some r := by rw [if_pos rfl] at H; exact H
    clear H
    have H := H1
    clear H1
    obtain rfl := Option.some.inj H
    go_wp2
    go_ret
    exact ⟨by first | rfl | (simp [errW_none, errW_some] <;> rfl) | (simp [*, errW_none, errW_some] <;> rfl), zb0 HB.out⟩
   ·replace c8 := Bool.eq_false_iff.mpr c8
    subst c8
    have H1 : (if 1 ≤ (a0.size : Int) then ((impl_ReadDecimal.f (a0.extract 1 a0.size)).bind fun bt301 => (if bt301.2 = true then (if bt301.1 > a2 then (some (-1)) else (some bt301.1)) else (some (-1)))) else (none)) = some r := by rw [if_neg (show ¬ (false = true) by decide)] at H; exact H
    clear H
    have H := H1
    clear H1
    by_cases c9 : 1 ≤ (a0.size : Int)
    ·rw [if_pos c9] at H
     have c9b0 := eq_true c9
     have c9b1 : decide (1 ≤ (a0.size : Int)) = true := decide_eq_true c9
     clear c9
     replace H := Option.bind_eq_some_iff.mp H
     obtain ⟨⟨t301, t302⟩, A100, H⟩ := H
     try dsimp only at H
     have A10 := Aside0.mk A100
     clear A100
     by_cases c11 : t302 = true
     ·subst c11
      have H1 : (if t301 > a2 then (some (-1)) else (some t301)) = some r := by rw [if_pos rfl] at H; exact H
      clear H
      have H := H1
      clear H1
      by_cases c12 : t301 > a2
      ·rw [if_pos c12] at H
       have c12b0 : decide (a2 < t301) = true := decide_eq_true c12
       have c12b1 : decide (t301 ≤ a2) = false := decide_eq_false (by omega)
       clear c12
       obtain rfl := Option.some.inj H
       go_wp2_with (first | ((with_reducible refine gate_callee (f := 81) rfl ?_); refine goesL_ (some 21) rfl rfl Tryz.func81 (by kernel_rfl) rfl #[.string (a0.extract 1 a0.size)] rfl zr ?_; (with_reducible refine (impl_ReadDecimal.calls (a0.extract 1 a0.size) t301 true _ A10.out ?laid).mono ?_); (case laid => exact LaidW.later HLW.out (zb0 HB.out)); rintro e w13 ⟨rfl, hb⟩; refine ⟨_, rfl, ?_⟩; replace HB := zs0 hb HB; clear hb))
       go_ret
       exact ⟨by first | rfl | (simp [errW_none, errW_some] <;> rfl) | (simp [*, errW_none, errW_some] <;> rfl), zb0 HB.out⟩
      ·rw [if_neg c12] at H
       have c12b0 : decide (a2 < t301) = false := decide_eq_false c12
       have c12b1 : decide (t301 ≤ a2) = true := decide_eq_true (by omega)
       clear c12
       obtain rfl := Option.some.inj H
       go_wp2_with (first | ((with_reducible refine gate_callee (f := 81) rfl ?_); refine goesL_ (some 21) rfl rfl Tryz.func81 (by kernel_rfl) rfl #[.string (a0.extract 1 a0.size)] rfl zr ?_; (with_reducible refine (impl_ReadDecimal.calls (a0.extract 1 a0.size) t301 true _ A10.out ?laid).mono ?_); (case laid => exact LaidW.later HLW.out (zb0 HB.out)); rintro e w14 ⟨rfl, hb⟩; refine ⟨_, rfl, ?_⟩; replace HB := zs0 hb HB; clear hb))
       go_ret
       exact ⟨by first | rfl | (simp [errW_none, errW_some] <;> rfl) | (simp [*, errW_none, errW_some] <;> rfl), zb0 HB.out⟩
     ·replace c11 := Bool.eq_false_iff.mpr c11
      subst c11
      have H1 : (some (-1)) = some r := by rw [if_neg (show ¬ (false = true) by decide)] at H; exact H
      clear H
      have H := H1
      clear H1
      obtain rfl := Option.some.inj H
      go_wp2_with (first | ((with_reducible refine gate_callee (f := 81) rfl ?_); refine goesL_ (some 21) rfl rfl Tryz.func81 (by kernel_rfl) rfl #[.string (a0.extract 1 a0.size)] rfl zr ?_; (with_reducible refine (impl_ReadDecimal.calls (a0.extract 1 a0.size) t301 false _ A10.out ?laid).mono ?_); (case laid => exact LaidW.later HLW.out (zb0 HB.out)); rintro e w15 ⟨rfl, hb⟩; refine ⟨_, rfl, ?_⟩; replace HB := zs0 hb HB; clear hb))
      go_ret
      exact ⟨by first | rfl | (simp [errW_none, errW_some] <;> rfl) | (simp [*, errW_none, errW_some] <;> rfl), zb0 HB.out⟩
    ·rw [if_neg c9] at H
     exact absurd H (by simp)

/-! ### impl_DiskOk: function 47, by hand -/ -- rounds making
def impl_DiskOk.l0 : Nat → List (S63) → Int → Int → List (S63) → Option (Bool)
 | 0, _, _, _, _ => none
 | k + 1, x6, x7, x8, x191000 => if x8 < x7 then (if 0 ≤ x8 then (if x8 < (x6.length : Int) then ((impl_within.f (((rd_T63 x6 x8).f0).size : Int) 1 8).bind fun t193 => (if t193 = true then (if (((rd_T63 x6 x8).f1).size : Int) > 20000 then (some false) else ((impl_within.f ((rd_T63 x6 x8).f2) 0 (((rd_T63 x6 x8).f1).size : Int)).bind fun t194 => (if t194 = true then (if x8 > 0 then (if 0 ≤ (wrap64 (x8 - 1)) then (if (wrap64 (x8 - 1)) < (x191000.length : Int) then (if ((Op.bytesLess (((rd_T63 x191000 (wrap64 (x8 - 1))).f0).toList) (((rd_T63 x6 x8).f0).toList)) = true) then (impl_DiskOk.l0 k x6 x7 (wrap64 (x8 + 1)) x191000) else (some false)) else (none)) else (none)) else (impl_DiskOk.l0 k x6 x7 (wrap64 (x8 + 1)) x191000)) else (some false)))) else (some false))) else (none)) else (none)) else (some (decide ((x191000.length : Int) ≤ 30)))
def impl_DiskOk.f (k : Nat) (l0_0 : List (S63)) : Option (Bool) := impl_DiskOk.l0 k l0_0 (l0_0.length : Int) 0 l0_0
theorem impl_DiskOk.mono_l : ∀ k, (∀ y0 y1 y2 y3, LeO (impl_DiskOk.l0 k y0 y1 y2 y3) (impl_DiskOk.l0 (k + 1) y0 y1 y2 y3))
 | 0 => fun _ _ _ _ r h => by simp [impl_DiskOk.l0] at h
 | k + 1 => by
  have ih0 := impl_DiskOk.mono_l k
  ·intro y0 y1 y2 y3
   unfold impl_DiskOk.l0
   repeat' first
   | (with_reducible exact ih0 _ _ _ _)
   | (with_reducible exact LeO.refl _)
   | (with_reducible exact LeO.none _)
   | (with_reducible refine LeO.ite ?_ ?_)
   | (with_reducible refine LeO.bind ?_ (fun _ => ?_))
   | exact ih0 _ _ _ _
   | exact LeO.none _
   | refine LeO.ite ?_ ?_
   | refine LeO.bind ?_ (fun _ => ?_)
theorem impl_DiskOk.mono : ∀ a0 k, LeO (impl_DiskOk.f k a0) (impl_DiskOk.f (k + 1) a0) := by
 intro a0 k
 have ih0 := impl_DiskOk.mono_l k
 unfold impl_DiskOk.f
 repeat' first
   | (with_reducible exact ih0 _ _ _ _)
   | (with_reducible exact LeO.refl _)
   | (with_reducible exact LeO.none _)
   | (with_reducible refine LeO.ite ?_ ?_)
   | (with_reducible refine LeO.bind ?_ (fun _ => ?_))
   | exact ih0 _ _ _ _
   | exact LeO.none _
   | refine LeO.ite ?_ ?_
   | refine LeO.bind ?_ (fun _ => ?_)
set_option maxHeartbeats 8000000 in
set_option maxRecDepth 100000 in
theorem impl_DiskOk.calls (k : Nat) (A0_0 : Option Addr) (c0_0 : Nat) (l0_0 : List (S63)) (r : Bool) (w : World) (hr0_0 : Kd.C k63 w A0_0 l0_0.length l0_0) (hc0_0 : l0_0.length ≤ c0_0) (h : impl_DiskOk.f k l0_0 = some r) :
  Calls Tryz.prog 47 #[.agg #[.slice A0_0 l0_0.length c0_0]] w fun e w' => e = .returned (.bool r) ∧ Below w.heap.size w w' := by
 have HR := Aside0.mk hr0_0
 have H' := Aside0.mk (show impl_DiskOk.l0 k l0_0 (l0_0.length : Int) 0 l0_0 = some r from h)
 clear hr0_0 hc0_0 h
 go_enter Tryz.func47, Tryz.ntmps47
 go_wp2_with ((with_reducible refine gate_dst (N := 1) rfl ?_); refine box_event rfl (N := 1) rfl (cs := #[.slice A0_0 l0_0.length c0_0]) (t := 30) zrun ?_; intro gd hg w2 hbox hb; have BK := Aside0.mk hbox; have HB := Aside0.mk hb; have c0 := blk_cell hbox 0; simp only [List.getElem?_toArray, List.getElem?_cons_zero] at c0; clear hbox hb hg)
 go_loopg [8] k (fun kq v8 w' => ∃ x : Int, v8 = .int .i64 x ∧ Aside0 (impl_DiskOk.l0 kq l0_0 (l0_0.length : Int) x l0_0 = some r) ∧ Aside0 (kq ≤ k) ∧ Aside0 (w'.heap[gd]? = some (.cells #[.slice A0_0 l0_0.length c0_0] 30 (0, 0))) ∧ Aside0 (Below w.heap.size w w'))
 case atStart => exact ⟨0, rfl, H', ⟨Nat.le_refl _⟩, BK, HB⟩
 case round =>
  clear H' BK HB c0
  obtain ⟨x, rfl, HA, HK1, BK, HB⟩ := hrel
  cases gk with
  | zero => exact absurd HA.out (by simp [impl_DiskOk.l0])
  | succ k1 =>
   have H := HA.out
   clear HA
   simp only [impl_DiskOk.l0] at H
   by_cases c1 : x < (l0_0.length : Int)
   ·rw [if_pos c1] at H
    by_cases c2 : 0 ≤ x
    ·rw [if_pos c2, if_pos c1] at H
     have x1 : decide (x < (l0_0.length : Int)) = true := decide_eq_true c1
     have x2 : decide ((l0_0.length : Int) ≤ x) = false := decide_eq_false (by omega)
     obtain ⟨ad, e, t0, t1, t2⟩ := at_T63 HR.out x c2 c1
     have ea := Aside0.mk e
     replace t0 := (HB.out.cell (World.block_lt_of_cell? w _ t0)).trans t0
     replace t1 := (HB.out.cell (World.block_lt_of_cell? w _ t1)).trans t1
     replace t2 := (HB.out.cell (World.block_lt_of_cell? w _ t2)).trans t2
     cases e
     have p0 := eq_true c2
     have q0 := eq_true c1
     have C1 := Aside0.mk c1
     have C2 := Aside0.mk c2
     clear c1 c2 ea
     obtain ⟨f, hf⟩ : ∃ f, f = rd_T63 l0_0 x := ⟨_, rfl⟩
     rw [← hf] at H t0 t1 t2
     have HF := Aside0.mk hf
     clear hf
     have HH := Aside0.mk H
     clear H
     go_wp2_with ((with_reducible refine gate_dst (N := 4) rfl ?_); refine box_event rfl (N := 4) rfl (cs := #[.string (⟨#[]⟩ : ByteArray), .string (⟨#[]⟩ : ByteArray), .int .i64 0]) (t := 63) zrun ?_; intro gb hg w_b hbox hb; have YB := Aside0.mk hbox; have ZB := Aside0.mk hb; have GB := Aside0.mk hg; have d0 := blk_cell hbox 0; have d1 := blk_cell hbox 1; have d2 := blk_cell hbox 2; simp only [List.getElem?_toArray, List.getElem?_cons_zero, List.getElem?_cons_succ] at d0 d1 d2; have f0 := blk_frozen hbox 0; have f1 := blk_frozen hbox 1; have f2 := blk_frozen hbox 2; clear hbox hb hg)
     have hgd : gd ≠ gb := by have := blk_lt BK.out; have := GB.out; omega
     have B3 : Aside0 ((((w_b.setCell ⟨gb, 0, none⟩ (.string f.f0)).setCell ⟨gb, 1, none⟩ (.string f.f1)).setCell ⟨gb, 2, none⟩ (.int .i64 f.f2)).heap[gb]? = some (.cells #[.string f.f0, .string f.f1, .int .i64 f.f2] 63 (0, 0))) := ⟨blk_put (blk_put (blk_put YB.out 0 (.string f.f0) rfl) 1 (.string f.f1) rfl) 2 (.int .i64 f.f2) rfl⟩
     have D3 : Aside0 ((((w_b.setCell ⟨gb, 0, none⟩ (.string f.f0)).setCell ⟨gb, 1, none⟩ (.string f.f1)).setCell ⟨gb, 2, none⟩ (.int .i64 f.f2)).heap[gd]? = some (.cells #[.slice (some ad) l0_0.length c0_0] 30 (0, 0))) := ⟨blk_far (blk_far (blk_far (blk_below BK.out ZB.out) hgd _) hgd _) hgd _⟩
     have hgb : w.heap.size ≤ gb := by rw [GB.out]; exact HB.out.size
     have H3 : Aside0 (Below w.heap.size w (((w_b.setCell ⟨gb, 0, none⟩ (.string f.f0)).setCell ⟨gb, 1, none⟩ (.string f.f1)).setCell ⟨gb, 2, none⟩ (.int .i64 f.f2))) := ⟨below_set (below_set (below_set (below_step HB.out ZB.out) hgb) hgb) hgb⟩
     clear BK HB YB ZB GB d0 d1 d2 f0 f1 f2 hgd hgb t0 t1 t2
     generalize (((w_b.setCell ⟨gb, 0, none⟩ (.string f.f0)).setCell ⟨gb, 1, none⟩ (.string f.f1)).setCell ⟨gb, 2, none⟩ (.int .i64 f.f2)) = W3 at B3 D3 H3 ⊢
     have d0 := blk_cell B3.out 0
     have d1 := blk_cell B3.out 1
     have d2 := blk_cell B3.out 2
     have g0 := blk_cell D3.out 0
     simp only [List.getElem?_toArray, List.getElem?_cons_zero, List.getElem?_cons_succ] at d0 d1 d2 g0
     have H := HH.out
     clear HH
     obtain ⟨b1, h1, H⟩ := Option.bind_eq_some_iff.mp H
     have A1 := Aside0.mk h1
     clear h1
     cases b1 with
     | false =>
      obtain rfl := Option.some.inj H
      clear H
      go_quiet (first | (go_at_call 82; (with_reducible refine (impl_within.calls (f.f0.size : Int) 1 8 false _ A1.out).mono ?_); rintro e w' ⟨rfl, ⟨nd, rfl⟩⟩; (try first | exact ⟨rfl, _, World.drewN_drewN _ _ _⟩ | exact ⟨rfl, _, Eq.trans (World.drewN_drewN _ _ _) (congrArg (World.drewN _) (Nat.add_assoc _ _ _))⟩)))
      go_wp2
      go_ret
      exact ⟨rfl, pw_below_drewN H3.out _⟩
     | true =>
      rw [if_pos rfl] at H
      by_cases c3 : (f.f1.size : Int) > 20000
      ·rw [if_pos c3] at H
       have y1 : decide (20000 < (f.f1.size : Int)) = true := decide_eq_true c3
       have y2 : decide (20000 < f.f1.size) = true := decide_eq_true (by omega)
       clear c3
       obtain rfl := Option.some.inj H
       clear H
       go_quiet (first | (go_at_call 82; (with_reducible refine (impl_within.calls (f.f0.size : Int) 1 8 true _ A1.out).mono ?_); rintro e w' ⟨rfl, ⟨nd, rfl⟩⟩; (try first | exact ⟨rfl, _, World.drewN_drewN _ _ _⟩ | exact ⟨rfl, _, Eq.trans (World.drewN_drewN _ _ _) (congrArg (World.drewN _) (Nat.add_assoc _ _ _))⟩)))
       go_wp2
       go_ret
       exact ⟨rfl, pw_below_drewN H3.out _⟩
      ·rw [if_neg c3] at H
       have y1 : decide (20000 < (f.f1.size : Int)) = false := decide_eq_false c3
       have y2 : decide (20000 < f.f1.size) = false := decide_eq_false (by omega)
       clear c3
       obtain ⟨b2, h2, H⟩ := Option.bind_eq_some_iff.mp H
       have A2 := Aside0.mk h2
       clear h2
       cases b2 with
       | false =>
        obtain rfl := Option.some.inj H
        clear H
        go_quiet (first | (go_at_call 82; (with_reducible refine (impl_within.calls (f.f0.size : Int) 1 8 true _ A1.out).mono ?_); rintro e w' ⟨rfl, ⟨nd, rfl⟩⟩; (try first | exact ⟨rfl, _, World.drewN_drewN _ _ _⟩ | exact ⟨rfl, _, Eq.trans (World.drewN_drewN _ _ _) (congrArg (World.drewN _) (Nat.add_assoc _ _ _))⟩)) | (go_at_call 82; (with_reducible refine (impl_within.calls f.f2 0 (f.f1.size : Int) false _ A2.out).mono ?_); rintro e w' ⟨rfl, ⟨nd, rfl⟩⟩; (try first | exact ⟨rfl, _, World.drewN_drewN _ _ _⟩ | exact ⟨rfl, _, Eq.trans (World.drewN_drewN _ _ _) (congrArg (World.drewN _) (Nat.add_assoc _ _ _))⟩)))
        go_wp2
        go_ret
        exact ⟨rfl, pw_below_drewN H3.out _⟩
       | true =>
        rw [if_pos rfl] at H
        by_cases c4 : x > 0
        ·rw [if_pos c4] at H
         have z1 : decide (0 < x) = true := decide_eq_true c4
         by_cases c5 : 0 ≤ wrap64 (x - 1)
         ·rw [if_pos c5] at H
          by_cases c6 : wrap64 (x - 1) < (l0_0.length : Int)
          ·rw [if_pos c6] at H
           obtain ⟨ad', e', t0, _, _⟩ := at_T63 HR.out (wrap64 (x - 1)) c5 c6
           obtain rfl : ad = ad' := by injection e'
           replace t0 := (H3.out.cell (World.block_lt_of_cell? w _ t0)).trans t0
           have p1 := eq_true c5
           have p2 := eq_true c6
           clear c4 c5 c6 e'
           by_cases c7 : Op.bytesLess (rd_T63 l0_0 (wrap64 (x - 1))).f0.toList f.f0.toList = true
           ·rw [if_pos c7] at H
            have HA := Aside0.mk H
            clear H
            go_quiet (first | (go_at_call 82; (with_reducible refine (impl_within.calls (f.f0.size : Int) 1 8 true _ A1.out).mono ?_); rintro e w' ⟨rfl, ⟨nd, rfl⟩⟩; (try first | exact ⟨rfl, _, World.drewN_drewN _ _ _⟩ | exact ⟨rfl, _, Eq.trans (World.drewN_drewN _ _ _) (congrArg (World.drewN _) (Nat.add_assoc _ _ _))⟩)) | (go_at_call 82; (with_reducible refine (impl_within.calls f.f2 0 (f.f1.size : Int) true _ A2.out).mono ?_); rintro e w' ⟨rfl, ⟨nd, rfl⟩⟩; (try first | exact ⟨rfl, _, World.drewN_drewN _ _ _⟩ | exact ⟨rfl, _, Eq.trans (World.drewN_drewN _ _ _) (congrArg (World.drewN _) (Nat.add_assoc _ _ _))⟩)))
            go_wp2
            go_roundg k1
            case measure => have := HK1.out; omega
            case rel => exact ⟨wrap64 (x + 1), (by first | rfl | (simp; done) | (simp [*]; done)), HA, ⟨by have := HK1.out; omega⟩, D3, ⟨pw_below_drewN H3.out _⟩⟩
           ·rw [if_neg c7] at H
            have c7' : Op.bytesLess (rd_T63 l0_0 (wrap64 (x - 1))).f0.toList f.f0.toList = false := by simpa using c7
            clear c7
            obtain rfl := Option.some.inj H
            clear H
            go_quiet (first | (go_at_call 82; (with_reducible refine (impl_within.calls (f.f0.size : Int) 1 8 true _ A1.out).mono ?_); rintro e w' ⟨rfl, ⟨nd, rfl⟩⟩; (try first | exact ⟨rfl, _, World.drewN_drewN _ _ _⟩ | exact ⟨rfl, _, Eq.trans (World.drewN_drewN _ _ _) (congrArg (World.drewN _) (Nat.add_assoc _ _ _))⟩)) | (go_at_call 82; (with_reducible refine (impl_within.calls f.f2 0 (f.f1.size : Int) true _ A2.out).mono ?_); rintro e w' ⟨rfl, ⟨nd, rfl⟩⟩; (try first | exact ⟨rfl, _, World.drewN_drewN _ _ _⟩ | exact ⟨rfl, _, Eq.trans (World.drewN_drewN _ _ _) (congrArg (World.drewN _) (Nat.add_assoc _ _ _))⟩)))
            go_wp2
            go_ret
            exact ⟨rfl, pw_below_drewN H3.out _⟩
          ·rw [if_neg c6] at H
           exact absurd H (by simp)
         ·rw [if_neg c5] at H
          exact absurd H (by simp)
        ·rw [if_neg c4] at H
         have z1 : decide (0 < x) = false := decide_eq_false c4
         clear c4
         have HA := Aside0.mk H
         clear H
         go_quiet (first | (go_at_call 82; (with_reducible refine (impl_within.calls (f.f0.size : Int) 1 8 true _ A1.out).mono ?_); rintro e w' ⟨rfl, ⟨nd, rfl⟩⟩; (try first | exact ⟨rfl, _, World.drewN_drewN _ _ _⟩ | exact ⟨rfl, _, Eq.trans (World.drewN_drewN _ _ _) (congrArg (World.drewN _) (Nat.add_assoc _ _ _))⟩)) | (go_at_call 82; (with_reducible refine (impl_within.calls f.f2 0 (f.f1.size : Int) true _ A2.out).mono ?_); rintro e w' ⟨rfl, ⟨nd, rfl⟩⟩; (try first | exact ⟨rfl, _, World.drewN_drewN _ _ _⟩ | exact ⟨rfl, _, Eq.trans (World.drewN_drewN _ _ _) (congrArg (World.drewN _) (Nat.add_assoc _ _ _))⟩)))
         go_wp2
         go_roundg k1
         case measure => have := HK1.out; omega
         case rel => exact ⟨wrap64 (x + 1), (by first | rfl | (simp; done) | (simp [*]; done)), HA, ⟨by have := HK1.out; omega⟩, D3, ⟨pw_below_drewN H3.out _⟩⟩
    ·rw [if_neg c2] at H
     exact absurd H (by simp)
   ·rw [if_neg c1] at H
    have x1 : decide (x < (l0_0.length : Int)) = false := decide_eq_false c1
    have x2 : decide ((l0_0.length : Int) ≤ x) = true := decide_eq_true (by omega)
    clear c1
    obtain rfl := Option.some.inj H
    clear H
    have c0 := blk_cell BK.out 0
    simp only [List.getElem?_toArray, List.getElem?_cons_zero] at c0
    go_wp2
    go_ret
    exact ⟨by first | rfl | (simp; done), HB.out⟩

/-! ### impl_isIndex: function 68 -/
def impl_isIndex.f (a0 : Int) : Option (Bool) := (impl_within.f a0 0 1000000).bind fun t303 => (some t303)
set_option maxHeartbeats 8000000 in
set_option maxRecDepth 100000 in
theorem impl_isIndex.calls (a0 : Int) (r : Bool) (w : World) (h : impl_isIndex.f a0 = some r) :
  Calls Tryz.prog 68 #[.int .i64 a0] w fun e w' => e = .returned (.bool r) ∧ Drawn0 w w' := by
 have H : ((impl_within.f a0 0 1000000).bind fun t303 => (some t303)) = some r := h
 clear h
 replace H := Option.bind_eq_some_iff.mp H
 obtain ⟨t303, A20, H⟩ := H
 try dsimp only at H
 have A2 := Aside0.mk A20
 clear A20
 obtain rfl := Option.some.inj H
 go_enter Tryz.func68, Tryz.ntmps68
 go_wp2_with (first | ((with_reducible refine gate_callee (f := 82) rfl ?_); refine goesL_ (some 4) rfl rfl Tryz.func82 (by kernel_rfl) rfl #[.int .i64 a0, .int .i64 0, .int .i64 1000000] rfl zr ?_; (with_reducible refine (impl_within.calls a0 0 1000000 t303 _ A2.out).mono ?_); rintro e w' ⟨rfl, ⟨nd, rfl⟩⟩; refine ⟨_, rfl, ?_⟩))
 go_ret
 exact ⟨by first | rfl | (simp; done) | (simp [*]; done), by repeat (first | exact Drawn0.refl _ | apply Drawn0.step)⟩

/-! ### impl_isTerm: function 100 -/
def impl_isTerm.f (a0 : Int) : Option (Bool) := (impl_within.f a0 0 100000).bind fun t304 => (some t304)
set_option maxHeartbeats 8000000 in
set_option maxRecDepth 100000 in
theorem impl_isTerm.calls (a0 : Int) (r : Bool) (w : World) (h : impl_isTerm.f a0 = some r) :
  Calls Tryz.prog 100 #[.int .i64 a0] w fun e w' => e = .returned (.bool r) ∧ Drawn0 w w' := by
 have H : ((impl_within.f a0 0 100000).bind fun t304 => (some t304)) = some r := h
 clear h
 replace H := Option.bind_eq_some_iff.mp H
 obtain ⟨t304, A20, H⟩ := H
 try dsimp only at H
 have A2 := Aside0.mk A20
 clear A20
 obtain rfl := Option.some.inj H
 go_enter Tryz.func100, Tryz.ntmps100
 go_wp2_with (first | ((with_reducible refine gate_callee (f := 82) rfl ?_); refine goesL_ (some 4) rfl rfl Tryz.func82 (by kernel_rfl) rfl #[.int .i64 a0, .int .i64 0, .int .i64 100000] rfl zr ?_; (with_reducible refine (impl_within.calls a0 0 100000 t304 _ A2.out).mono ?_); rintro e w' ⟨rfl, ⟨nd, rfl⟩⟩; refine ⟨_, rfl, ?_⟩))
 go_ret
 exact ⟨by first | rfl | (simp; done) | (simp [*]; done), by repeat (first | exact Drawn0.refl _ | apply Drawn0.step)⟩

/-! ### impl_highFirst: function 144 -/
def impl_highFirst.l0 : Nat → Int → List Int → Int → Option (ByteArray)
 | 0, _, _, _ => none
 | k + 1, x0, x5, x6 => if x6 ≥ 0 then (if 0 ≤ x6 then (if x6 < (x5.length : Int) then (impl_highFirst.l0 k (x0 / 256) (x5.set (x6 : Int).toNat ((Go.bits .and .i64 x0 255) % 256)) (wrap64 (x6 - 1))) else (none)) else (none)) else (some (strOfNums x5))
def impl_highFirst.f (k : Nat) (a0 : Int) (a1 : Int) : Option (ByteArray) := if 0 ≤ a1 then (if (a1 : Int).toNat ≤ 281474976710656 then (impl_highFirst.l0 k a0 (List.replicate (a1 : Int).toNat 0) (wrap64 (a1 - 1))) else (none)) else (none)
theorem impl_highFirst.mono_l : ∀ k, (∀ y0 y1 y2, LeO (impl_highFirst.l0 k y0 y1 y2) (impl_highFirst.l0 (k + 1) y0 y1 y2))
 | 0 => fun _ _ _ r h => by simp [impl_highFirst.l0] at h
 | k + 1 => by
  have ih0 := impl_highFirst.mono_l k
  ·intro y0 y1 y2
   unfold impl_highFirst.l0
   repeat' first
   | (with_reducible exact ih0 _ _ _)
   | (with_reducible exact LeO.refl _)
   | (with_reducible exact LeO.none _)
   | (with_reducible refine LeO.ite ?_ ?_)
   | (with_reducible refine LeO.bind ?_ (fun _ => ?_))
   | exact ih0 _ _ _
   | exact LeO.none _
   | refine LeO.ite ?_ ?_
   | refine LeO.bind ?_ (fun _ => ?_)
theorem impl_highFirst.mono : ∀ a0 a1 k, LeO (impl_highFirst.f k a0 a1) (impl_highFirst.f (k + 1) a0 a1) := by
 intro a0 a1 k
 have ih0 := impl_highFirst.mono_l k
 unfold impl_highFirst.f
 repeat' first
   | (with_reducible exact ih0 _ _ _)
   | (with_reducible exact LeO.refl _)
   | (with_reducible exact LeO.none _)
   | (with_reducible refine LeO.ite ?_ ?_)
   | (with_reducible refine LeO.bind ?_ (fun _ => ?_))
   | exact ih0 _ _ _
   | exact LeO.none _
   | refine LeO.ite ?_ ?_
   | refine LeO.bind ?_ (fun _ => ?_)
set_option maxHeartbeats 8000000 in
set_option maxRecDepth 100000 in
theorem impl_highFirst.calls (k : Nat) (a0 : Int) (a1 : Int) (r : ByteArray) (w : World) (h : impl_highFirst.f k a0 a1 = some r) :
  Calls Tryz.prog 144 #[.int .i64 a0, .int .i64 a1] w fun e w' => e = .returned (.string r) ∧ Below w.heap.size w w' := by
 have HB := Aside0.mk (Below.refl w.heap.size w)
 have H : (if 0 ≤ a1 then (if (a1 : Int).toNat ≤ 281474976710656 then (impl_highFirst.l0 k a0 (List.replicate (a1 : Int).toNat 0) (wrap64 (a1 - 1))) else (none)) else (none)) = some r := h
 clear h
 by_cases c3 : 0 ≤ a1
 ·rw [if_pos c3] at H
  have c3b0 := eq_true c3
  have c3b1 : decide (0 ≤ a1) = true := decide_eq_true c3
  clear c3
  by_cases c4 : (a1 : Int).toNat ≤ 281474976710656
  ·rw [if_pos c4] at H
   have c4b0 := eq_true c4
   have c4b1 : decide ((a1 : Int).toNat ≤ 281474976710656) = true := decide_eq_true c4
   clear c4
   obtain ⟨y305, hy305⟩ : ∃ y_ : List Int, y_ = (List.replicate (a1 : Int).toNat 0) := ⟨_, rfl⟩
   replace H : (impl_highFirst.l0 k a0 y305 (wrap64 (a1 - 1))) = some r := by first | (rw [hy305]; with_reducible exact H) | (have H2_ := (Option.bind_some _ _).symm.trans H; rw [hy305]; with_reducible exact H2_) | (have H2_ := (Option.bind_some _ _).symm.trans H; with_reducible exact H2_) | with_reducible exact H | (rw [hy305]; exact H) | exact H
   have Ny305 := Aside0.mk hy305
   clear hy305
   have H' := Aside0.mk H
   clear H
   go_enter Tryz.func144, Tryz.ntmps144
   go_wp2_with (first | ((with_reducible refine gate_dst (N := 8) rfl ?_); refine Kd.R_make (Kd.int .u8) _ 5 rfl (N := 8) rfl 95 _ _ rfl a1 rfl rfl Tryz.underlying95 (.int .u8 0) 1 info5 rfl (by decide) (by omega) 0 (ok := fun _ => True) (okp := fun _ => True) rfl (fun _ hk => hk) trivial (of_decide_eq_true (by first | (with_reducible assumption) | assumption)) (Nat.le_trans (Nat.mul_le_mul_right _ (of_decide_eq_true (by first | (with_reducible assumption) | assumption) : a1.toNat ≤ 281474976710656)) (by omega)) (Below.refl _ _) (Nat.le_refl _) ?_; intro v306 w5 ho6 hb hg_ hnew_; clear hg_ hnew_; (first | rw [← Ny305.out] at ho6 | (simp only [Int.reduceToNat] at ho6; rw [← Ny305.out] at ho6)); have HO307 := am (Kd.R_lower ho6 (below_size (zb0 HB.out))); replace HB := zs0 hb HB; clear hb ho6))
   go_loopg [0, 6] k (fun kq v0 v6 w' => ∃ (x0_1 : Int) (x5_1 : List Int) (x6_1 : Int), v0 = .int .i64 x0_1 ∧ v6 = .int .i64 x6_1 ∧ Aside0 (impl_highFirst.l0 kq x0_1 x5_1 x6_1 = some r) ∧ Aside0 (kq ≤ k) ∧ Aside0 (Kd.R (Kd.int .u8) 5 w' w.heap.size (fun _ => True) v306 x5_1) ∧ Aside0 (Below w.heap.size w w'))
   case atStart => exact ⟨(a0), (y305), (wrap64 (a1 - 1)), (by first | rfl | (simp; done) | (simp [*]; done)), (by first | rfl | (simp; done) | (simp [*]; done)), H', ⟨Nat.le_refl _⟩, ⟨rx HO307.out⟩, ⟨zb0 HB.out⟩⟩
   case round =>
    clear H'
    obtain ⟨x0_1, x5_1, x6_1, rfl, rfl, HA, HK1, HO_5, HB⟩ := hrel
    cases gk with
    | zero => exact absurd HA.out (by simp [impl_highFirst.l0])
    | succ k1 =>
     have H := HA.out
     clear HA
     simp only [impl_highFirst.l0] at H
     by_cases c7 : x6_1 ≥ 0
     ·rw [if_pos c7] at H
      have c7b0 : decide (0 ≤ x6_1) = true := decide_eq_true c7
      clear c7
      by_cases c8 : 0 ≤ x6_1
      ·rw [if_pos c8] at H
       have c8b0 : decide (0 ≤ x6_1) = true := decide_eq_true c8
       clear c8
       by_cases c9 : x6_1 < (x5_1.length : Int)
       ·rw [if_pos c9] at H
        have c9b0 : decide (x6_1 < (x5_1.length : Int)) = true := decide_eq_true c9
        have c9b1 : decide ((x5_1.length : Int) ≤ x6_1) = false := decide_eq_false (by omega)
        clear c9
        obtain ⟨y308, hy308⟩ : ∃ y_ : List Int, y_ = (x5_1.set (x6_1 : Int).toNat ((Go.bits .and .i64 x0_1 255) % 256)) := ⟨_, rfl⟩
        replace H : (impl_highFirst.l0 k1 (x0_1 / 256) y308 (wrap64 (x6_1 - 1))) = some r := by first | (rw [hy308]; with_reducible exact H) | (have H2_ := (Option.bind_some _ _).symm.trans H; rw [hy308]; with_reducible exact H2_) | (have H2_ := (Option.bind_some _ _).symm.trans H; with_reducible exact H2_) | with_reducible exact H | (rw [hy308]; exact H) | exact H
        have Ny308 := Aside0.mk hy308
        clear hy308
        have H' := Aside0.mk H
        clear H
        have p10 : 0 ≤ (x6_1 : Int) := of_decide_eq_true (by first | (with_reducible assumption) | assumption)
        have q10 : (x6_1 : Int) < ((x5_1.length : Int) : Int) := of_decide_eq_true (by first | (with_reducible assumption) | assumption)
        obtain ⟨go10, co10, eo10, gb10, gl10, cl10, HG10⟩ := Kd.R_form HO_5.out (by omega)
        (first | cases eo10 | (injection eo10 with ea_ en_ ec_; (first | subst ea_ | (injection ea_ with ea_; subst ea_)); subst ec_; clear en_))
        have GB10 := Aside0.mk gb10
        have GG10 := Aside0.mk HG10
        clear gb10 gl10 HG10
        obtain ⟨hx10_0, hf10_0⟩ := Kd.R_celln 0 HO_5.out (x6_1 : Int) p10 q10
        replace p10 := eq_true p10
        replace q10 := eq_true q10
        have HP11 := Kd.R_putg HO_5.out (x6_1 : Int) ((Go.bits .and .i64 x0_1 255) % 256)
        go_wp2_with (first | ((with_reducible refine gate_store (t := 5) (p := 20) rfl ?_); refine store_event (t := 5) (p := 20) (v := ?vo_w12) (w1 := (wr.setCell ⟨go10, (x6_1 : Int).toNat, none⟩ (.int .u8 ((Go.bits .and .i64 x0_1 255) % 256)))) ?hg ?ho ?hn ?hr ?_; (case ho => rfl); (case hg => rfl); (case hn => rfl); (case hr => first | (go_simp; done) | (go_simp; rfl)); intro w12 hw; have hg : wr.grownBy w12 (some go10) := (by rw [hw]; exact HP11.2); have hp_ : Kd.R (Kd.int .u8) 5 w12 w.heap.size (fun _ => True) (.slice (some ⟨go10, 0, none⟩) x5_1.length co10) y308 := (by rw [hw, Ny308.out]; exact HP11.1); clear HP11; replace HO_5 := am (hp_); replace HB := am ((by rw [hw]; exact below_set (HB.out) GB10.out : Below w.heap.size w w12)); clear hg hw hp_))
        go_roundg k1
        case measure => have := HK1.out; omega
        case rel => exact ⟨(x0_1 / 256), (y308), (wrap64 (x6_1 - 1)), (by first | rfl | (simp; done) | (simp [*]; done)), (by first | rfl | (simp; done) | (simp [*]; done)), H', ⟨by have := HK1.out; omega⟩, ⟨rx HO_5.out⟩, ⟨zb0 HB.out⟩⟩
       ·rw [if_neg c9] at H
        exact absurd H (by simp)
      ·rw [if_neg c8] at H
       exact absurd H (by simp)
     ·rw [if_neg c7] at H
      have c7b0 : decide (0 ≤ x6_1) = false := decide_eq_false c7
      clear c7
      obtain rfl := Option.some.inj H
      have hcv13 := own_string (P := Tryz.prog) Tryz.underlying95 Tryz.underlying5 Tryz.underlying9 (Kd.own_of_R HO_5.out)
      go_wp2
      go_ret
      exact ⟨by first | rfl | (simp [errW_none, errW_some] <;> rfl) | (simp [*, errW_none, errW_some] <;> rfl), zb0 HB.out⟩
  ·rw [if_neg c4] at H
   exact absurd H (by simp)
 ·rw [if_neg c3] at H
  exact absurd H (by simp)

/-! ### impl_SumMore: function 158 -/
mutual
def impl_SumMore.l0 : Nat → Int → ByteArray → Int → Option (Int)
 | 0, _, _, _ => none
 | k + 1, x0, x1, x5 => if x5 < (x1.size : Int) then (if 0 ≤ x5 then (impl_SumMore.l1 k (Go.bits .xor .u32 x0 ((bt x1 x5) % 4294967296)) x1 x5 0) else (none)) else (some x0)
def impl_SumMore.l1 : Nat → Int → ByteArray → Int → Int → Option (Int)
 | 0, _, _, _, _ => none
 | k + 1, x0, x1, x5, x19 => if x19 < 8 then (if (Int.tmod x0 2) = 1 then (impl_SumMore.l1 k (Go.bits .xor .u32 ((Int.tdiv x0 2) % 4294967296) 3558460437) x1 x5 (wrap64 (x19 + 1))) else (impl_SumMore.l1 k ((Int.tdiv x0 2) % 4294967296) x1 x5 (wrap64 (x19 + 1)))) else (impl_SumMore.l0 k x0 x1 (wrap64 (x5 + 1)))
end
def impl_SumMore.f (k : Nat) (a0 : Int) (a1 : ByteArray) : Option (Int) := impl_SumMore.l0 k a0 a1 0
theorem impl_SumMore.mono_l : ∀ k, (∀ y0 y1 y2, LeO (impl_SumMore.l0 k y0 y1 y2) (impl_SumMore.l0 (k + 1) y0 y1 y2)) ∧ (∀ y0 y1 y2 y3, LeO (impl_SumMore.l1 k y0 y1 y2 y3) (impl_SumMore.l1 (k + 1) y0 y1 y2 y3))
 | 0 => ⟨fun _ _ _ r h => by simp [impl_SumMore.l0] at h, fun _ _ _ _ r h => by simp [impl_SumMore.l1] at h⟩
 | k + 1 => by
  obtain ⟨ih0, ih1⟩ := impl_SumMore.mono_l k
  refine ⟨?_, ?_⟩
  ·intro y0 y1 y2
   unfold impl_SumMore.l0
   repeat' first
   | (with_reducible exact ih0 _ _ _)
   | (with_reducible exact ih1 _ _ _ _)
   | (with_reducible exact LeO.refl _)
   | (with_reducible exact LeO.none _)
   | (with_reducible refine LeO.ite ?_ ?_)
   | (with_reducible refine LeO.bind ?_ (fun _ => ?_))
   | exact ih0 _ _ _
   | exact ih1 _ _ _ _
   | exact LeO.none _
   | refine LeO.ite ?_ ?_
   | refine LeO.bind ?_ (fun _ => ?_)
  ·intro y0 y1 y2 y3
   unfold impl_SumMore.l1
   repeat' first
   | (with_reducible exact ih0 _ _ _)
   | (with_reducible exact ih1 _ _ _ _)
   | (with_reducible exact LeO.refl _)
   | (with_reducible exact LeO.none _)
   | (with_reducible refine LeO.ite ?_ ?_)
   | (with_reducible refine LeO.bind ?_ (fun _ => ?_))
   | exact ih0 _ _ _
   | exact ih1 _ _ _ _
   | exact LeO.none _
   | refine LeO.ite ?_ ?_
   | refine LeO.bind ?_ (fun _ => ?_)
theorem impl_SumMore.mono : ∀ a0 a1 k, LeO (impl_SumMore.f k a0 a1) (impl_SumMore.f (k + 1) a0 a1) := by
 intro a0 a1 k
 obtain ⟨ih0, ih1⟩ := impl_SumMore.mono_l k
 unfold impl_SumMore.f
 repeat' first
   | (with_reducible exact ih0 _ _ _)
   | (with_reducible exact ih1 _ _ _ _)
   | (with_reducible exact LeO.refl _)
   | (with_reducible exact LeO.none _)
   | (with_reducible refine LeO.ite ?_ ?_)
   | (with_reducible refine LeO.bind ?_ (fun _ => ?_))
   | exact ih0 _ _ _
   | exact ih1 _ _ _ _
   | exact LeO.none _
   | refine LeO.ite ?_ ?_
   | refine LeO.bind ?_ (fun _ => ?_)
set_option maxHeartbeats 8000000 in
set_option maxRecDepth 100000 in
theorem impl_SumMore.calls (k : Nat) (a0 : Int) (a1 : ByteArray) (r : Int) (w : World) (h : impl_SumMore.f k a0 a1 = some r) :
  Calls Tryz.prog 158 #[.int .u32 a0, .string a1] w fun e w' => e = .returned (.int .u32 r) ∧ Drawn0 w w' := by
 have H : (impl_SumMore.l0 k a0 a1 0) = some r := h
 clear h
 have H' := Aside0.mk H
 clear H
 go_enter Tryz.func158, Tryz.ntmps158
 go_wp2
 go_loopg [0, 5] k (fun kq v0 v5 w' => ∃ (x0_1 : Int) (x5_1 : Int), v0 = .int .u32 x0_1 ∧ v5 = .int .i64 x5_1 ∧ Aside0 (impl_SumMore.l0 kq x0_1 a1 x5_1 = some r) ∧ Aside0 (kq ≤ k) ∧ Drawn0 w w')
 case atStart => exact ⟨(a0), (0), (by first | rfl | (simp; done) | (simp [*]; done)), (by first | rfl | (simp; done) | (simp [*]; done)), H', ⟨Nat.le_refl _⟩, by repeat (first | exact Drawn0.refl _ | apply Drawn0.step)⟩
 case round =>
  clear H'
  obtain ⟨x0_1, x5_1, rfl, rfl, HA, HK1, ⟨m1, rfl⟩⟩ := hrel
  cases gk with
  | zero => exact absurd HA.out (by simp [impl_SumMore.l0])
  | succ k1 =>
   have H := HA.out
   clear HA
   simp only [impl_SumMore.l0] at H
   by_cases c3 : x5_1 < (a1.size : Int)
   ·rw [if_pos c3] at H
    have c3b0 : decide (x5_1 < (a1.size : Int)) = true := decide_eq_true c3
    have c3b1 : decide ((a1.size : Int) ≤ x5_1) = false := decide_eq_false (by omega)
    clear c3
    by_cases c4 : 0 ≤ x5_1
    ·rw [if_pos c4] at H
     have c4b0 : decide (0 ≤ x5_1) = true := decide_eq_true c4
     clear c4
     have H' := Aside0.mk H
     clear H
     have p5 : 0 ≤ (x5_1 : Int) := of_decide_eq_true (by first | (with_reducible assumption) | assumption)
     have q5 : x5_1 < (a1.size : Int) := of_decide_eq_true (by first | (with_reducible assumption) | assumption)
     have hx5 := bt_at a1 x5_1
     replace p5 := eq_true p5
     replace q5 := eq_true q5
     go_wp2
     go_loopg [0, 19] k1 (fun kq v0 v19 w' => ∃ (x0_2 : Int) (x19_2 : Int), v0 = .int .u32 x0_2 ∧ v19 = .int .i64 x19_2 ∧ Aside0 (impl_SumMore.l1 kq x0_2 a1 x5_1 x19_2 = some r) ∧ Aside0 (kq ≤ k1) ∧ Drawn0 w w')
     case atStart => exact ⟨(Go.bits .xor .u32 x0_1 ((bt a1 x5_1) % 4294967296)), (0), (by first | rfl | (simp; done) | (simp [*]; done)), (by first | rfl | (simp; done) | (simp [*]; done)), H', ⟨Nat.le_refl _⟩, by repeat (first | exact Drawn0.refl _ | apply Drawn0.step)⟩
     case round =>
      clear H'
      obtain ⟨x0_2, x19_2, rfl, rfl, HA, HK2, ⟨m2, rfl⟩⟩ := hrel
      cases gk with
      | zero => exact absurd HA.out (by simp [impl_SumMore.l1])
      | succ k2 =>
       have H := HA.out
       clear HA
       simp only [impl_SumMore.l1] at H
       by_cases c6 : x19_2 < 8
       ·rw [if_pos c6] at H
        have c6b0 : decide (x19_2 < 8) = true := decide_eq_true c6
        clear c6
        by_cases c7 : (Int.tmod x0_2 2) = 1
        ·rw [if_pos c7] at H
         have c7b0 : ((Int.tmod x0_2 2) == 1) = true := beq_iff_eq.mpr c7
         have c7b1 : ((Int.tmod x0_2 2) != 1) = false := bne_eq_false_iff_eq.mpr c7
         clear c7
         have H' := Aside0.mk H
         clear H
         go_wp2
         go_roundg k2
         case measure => have := HK1.out; have := HK2.out; omega
         case rel => exact ⟨(Go.bits .xor .u32 ((Int.tdiv x0_2 2) % 4294967296) 3558460437), (wrap64 (x19_2 + 1)), (by first | rfl | (simp; done) | (simp [*]; done)), (by first | rfl | (simp; done) | (simp [*]; done)), H', ⟨by have := HK1.out; have := HK2.out; omega⟩, by repeat (first | exact Drawn0.refl _ | apply Drawn0.step)⟩
        ·rw [if_neg c7] at H
         have c7b0 : ((Int.tmod x0_2 2) == 1) = false := beq_eq_false_iff_ne.mpr c7
         have c7b1 : ((Int.tmod x0_2 2) != 1) = true := bne_iff_ne.mpr c7
         have H' := Aside0.mk H
         clear H
         go_wp2
         go_roundg k2
         case measure => have := HK1.out; have := HK2.out; omega
         case rel => exact ⟨((Int.tdiv x0_2 2) % 4294967296), (wrap64 (x19_2 + 1)), (by first | rfl | (simp; done) | (simp [*]; done)), (by first | rfl | (simp; done) | (simp [*]; done)), H', ⟨by have := HK1.out; have := HK2.out; omega⟩, by repeat (first | exact Drawn0.refl _ | apply Drawn0.step)⟩
       ·rw [if_neg c6] at H
        have c6b0 : decide (x19_2 < 8) = false := decide_eq_false c6
        clear c6
        have H' := Aside0.mk H
        clear H
        go_wp2
        go_roundg k2
        case measure => have := HK1.out; have := HK2.out; omega
        case rel => exact ⟨(x0_2), (wrap64 (x5_1 + 1)), (by first | rfl | (simp; done) | (simp [*]; done)), (by first | rfl | (simp; done) | (simp [*]; done)), H', ⟨by have := HK1.out; have := HK2.out; omega⟩, by repeat (first | exact Drawn0.refl _ | apply Drawn0.step)⟩
    ·rw [if_neg c4] at H
     exact absurd H (by simp)
   ·rw [if_neg c3] at H
    have c3b0 : decide (x5_1 < (a1.size : Int)) = false := decide_eq_false c3
    have c3b1 : decide ((a1.size : Int) ≤ x5_1) = true := decide_eq_true (by omega)
    clear c3
    obtain rfl := Option.some.inj H
    go_wp2
    go_ret
    exact ⟨by first | rfl | (simp; done) | (simp [*]; done), by repeat (first | exact Drawn0.refl _ | apply Drawn0.step)⟩

/-! ### impl_SumOf: function 145 -/
def impl_SumOf.f (k : Nat) (a0 : ByteArray) : Option (Int) := (impl_SumMore.f k 4294967295 a0).bind fun t309 => (some t309)
theorem impl_SumOf.mono : ∀ a0 k, LeO (impl_SumOf.f k a0) (impl_SumOf.f (k + 1) a0) := by
 intro a0 k
 unfold impl_SumOf.f
 repeat' first
   | (with_reducible exact impl_SumMore.mono _ _ _)
   | (with_reducible exact LeO.refl _)
   | (with_reducible exact LeO.none _)
   | (with_reducible refine LeO.ite ?_ ?_)
   | (with_reducible refine LeO.bind ?_ (fun _ => ?_))
   | exact impl_SumMore.mono _ _ _
   | exact LeO.none _
   | refine LeO.ite ?_ ?_
   | refine LeO.bind ?_ (fun _ => ?_)
set_option maxHeartbeats 8000000 in
set_option maxRecDepth 100000 in
theorem impl_SumOf.calls (k : Nat) (a0 : ByteArray) (r : Int) (w : World) (h : impl_SumOf.f k a0 = some r) :
  Calls Tryz.prog 145 #[.string a0] w fun e w' => e = .returned (.int .u32 r) ∧ Drawn0 w w' := by
 have H : ((impl_SumMore.f k 4294967295 a0).bind fun t309 => (some t309)) = some r := h
 clear h
 replace H := Option.bind_eq_some_iff.mp H
 obtain ⟨t309, A20, H⟩ := H
 try dsimp only at H
 have A2 := Aside0.mk A20
 clear A20
 obtain rfl := Option.some.inj H
 go_enter Tryz.func145, Tryz.ntmps145
 go_wp2_with (first | ((with_reducible refine gate_callee (f := 158) rfl ?_); refine goesL_ (some 4) rfl rfl Tryz.func158 (by kernel_rfl) rfl #[.int .u32 4294967295, .string a0] rfl zr ?_; (with_reducible refine (impl_SumMore.calls k 4294967295 a0 t309 _ A2.out).mono ?_); rintro e w' ⟨rfl, ⟨nd, rfl⟩⟩; refine ⟨_, rfl, ?_⟩))
 go_ret
 exact ⟨by first | rfl | (simp; done) | (simp [*]; done), by repeat (first | exact Drawn0.refl _ | apply Drawn0.step)⟩

/-! ### impl_Sealed: function 101 -/
def impl_Sealed.f (k : Nat) (a0 : ByteArray) : Option (ByteArray × Bool) := if (a0.size : Int) > 20000 then (some ((⟨#[]⟩ : ByteArray), false)) else ((impl_SumOf.f k a0).bind fun t310 => ((impl_highFirst.f k (wrap64 (t310)) 4).bind fun t311 => (if a0.size + t311.size ≤ 9223372036854775807 then (some (a0 ++ t311, true)) else (none))))
theorem impl_Sealed.mono : ∀ a0 k, LeO (impl_Sealed.f k a0) (impl_Sealed.f (k + 1) a0) := by
 intro a0 k
 unfold impl_Sealed.f
 repeat' first
   | (with_reducible exact impl_SumOf.mono _ _)
   | (with_reducible exact impl_highFirst.mono _ _ _)
   | (with_reducible exact LeO.refl _)
   | (with_reducible exact LeO.none _)
   | (with_reducible refine LeO.ite ?_ ?_)
   | (with_reducible refine LeO.bind ?_ (fun _ => ?_))
   | exact impl_SumOf.mono _ _
   | exact impl_highFirst.mono _ _ _
   | exact LeO.none _
   | refine LeO.ite ?_ ?_
   | refine LeO.bind ?_ (fun _ => ?_)
set_option maxHeartbeats 8000000 in
set_option maxRecDepth 100000 in
theorem impl_Sealed.calls (k : Nat) (a0 : ByteArray) (r1 : ByteArray) (r2 : Bool) (w : World) (h : impl_Sealed.f k a0 = some (r1, r2)) :
  Calls Tryz.prog 101 #[.string a0] w fun e w' => e = .returned (.tuple #[.string r1, .bool r2]) ∧ Below w.heap.size w w' := by
 have HB := Aside0.mk (Below.refl w.heap.size w)
 have H : (if (a0.size : Int) > 20000 then (some ((⟨#[]⟩ : ByteArray), false)) else ((impl_SumOf.f k a0).bind fun t310 => ((impl_highFirst.f k (wrap64 (t310)) 4).bind fun t311 => (if a0.size + t311.size ≤ 9223372036854775807 then (some (a0 ++ t311, true)) else (none))))) = some (r1, r2) := h
 clear h
 by_cases c2 : (a0.size : Int) > 20000
 ·rw [if_pos c2] at H
  have c2b0 : decide (20000 < (a0.size : Int)) = true := decide_eq_true c2
  have c2b1 : decide (20000 < a0.size) = true := decide_eq_true (by omega)
  clear c2
  simp only [Option.some.injEq, Prod.mk.injEq] at H
  obtain ⟨rfl, rfl⟩ := H
  go_enter Tryz.func101, Tryz.ntmps101
  go_wp2
  go_ret2
  exact ⟨by first | rfl | (simp [errW_none, errW_some] <;> rfl) | (simp [*, errW_none, errW_some] <;> rfl), zb0 HB.out⟩
 ·rw [if_neg c2] at H
  have c2b0 : decide (20000 < (a0.size : Int)) = false := decide_eq_false c2
  have c2b1 : decide (20000 < a0.size) = false := decide_eq_false (by omega)
  clear c2
  replace H := Option.bind_eq_some_iff.mp H
  obtain ⟨t310, A30, H⟩ := H
  try dsimp only at H
  have A3 := Aside0.mk A30
  clear A30
  replace H := Option.bind_eq_some_iff.mp H
  obtain ⟨t311, A40, H⟩ := H
  try dsimp only at H
  have A4 := Aside0.mk A40
  clear A40
  by_cases c5 : a0.size + t311.size ≤ 9223372036854775807
  ·rw [if_pos c5] at H
   have c5b0 := eq_true c5
   have c5b1 : decide (a0.size + t311.size ≤ 9223372036854775807) = true := decide_eq_true c5
   try have c5b2 : (9223372036854775807 < a0.size + t311.size) = False := eq_false (Nat.not_lt.2 c5)
   simp only [Option.some.injEq, Prod.mk.injEq] at H
   obtain ⟨rfl, rfl⟩ := H
   go_enter Tryz.func101, Tryz.ntmps101
   go_wp2_with (first | ((with_reducible refine gate_callee (f := 145) rfl ?_); refine goesL_ (some 9) rfl rfl Tryz.func145 (by kernel_rfl) rfl #[.string a0] rfl zr ?_; (with_reducible refine (impl_SumOf.calls k a0 t310 _ A3.out).mono ?_); rintro e w' ⟨rfl, ⟨nd, rfl⟩⟩; refine ⟨_, rfl, ?_⟩) | ((with_reducible refine gate_callee (f := 144) rfl ?_); refine goesL_ (some 11) rfl rfl Tryz.func144 (by kernel_rfl) rfl #[.int .i64 (wrap64 (t310)), .int .i64 4] rfl zr ?_; (with_reducible refine (impl_highFirst.calls k (wrap64 (t310)) 4 t311 _ A4.out).mono ?_); rintro e w6 ⟨rfl, hb⟩; refine ⟨_, rfl, ?_⟩; replace HB := zs0 hb HB; clear hb))
   go_ret2
   exact ⟨by first | rfl | (simp [errW_none, errW_some] <;> rfl) | (simp [*, errW_none, errW_some] <;> rfl), zb0 HB.out⟩
  ·rw [if_neg c5] at H
   exact absurd H (by simp)

end Go.Proofs.YtogifkjkbfdocaaGreatDoor.QFnExactShedActs
