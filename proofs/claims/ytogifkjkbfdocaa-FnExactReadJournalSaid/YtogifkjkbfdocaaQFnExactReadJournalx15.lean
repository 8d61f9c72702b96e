/- Written by the kit's print.py, called by our own print2.sh with one import more; not by print.sh. -/
import Derived.Test.YtogifkjkbfdocaaQFnExactReadJournalx0
import Derived.Test.YtogifkjkbfdocaaQFnExactReadJournalx8
import Derived.Test.YtogifkjkbfdocaaQFnExactReadJournalx10
import Derived.Test.YtogifkjkbfdocaaQFnExactReadJournalx11
import Derived.Test.YtogifkjkbfdocaaQFnExactReadJournalx14
namespace Go.Proofs.Ytogifkjkbfdocaa.QFnExactReadJournal
open Go.RowKit Go.Proofs.YtogifkjkbfdocaaW.PrintWords Go.Proofs.YtogifkjkbfdocaaW.PrintLast Go.Proofs.YtogifkjkbfdocaaW.PrintMore
attribute [local go_sem] max2_int min2_int max_two min_two max_three min_three max_four min_four   -- for this text's walks alone
open Go.Proofs.Ytogifkjkbfdocaa.Short
set_option linter.unusedVariables false
set_option linter.unusedSimpArgs false

/-! ### impl_ReadJournal: function 5 -/
mutual
def impl_ReadJournal.j0 : Nat → Int → List ByteArray → Bool → Option (Int × Int × Int × Int × Int × (List (S56)) × Int × Bool)
 | 0, _, _, _ => none
 | k + 1, x0, x7, x32 => if x32 = true then (some (0, 0, 0, 0, 0, ([] : List (S56)), 0, false)) else (if 0 < (x7.length : Int) then ((impl_twoNumbers.f k (rdOf ByteArray.empty x7 0) 66).bind fun bt304 => (if bt304.2.2 = true then ((impl_LogOk.f k bt304.1 bt304.2.1 ([] : List (S56))).bind fun t308 => (impl_ReadJournal.j1 k x7 (!t308) x0 0 0 bt304.1 bt304.2.1)) else (impl_ReadJournal.j1 k x7 true x0 0 0 bt304.1 bt304.2.1))) else (none))
def impl_ReadJournal.j1 : Nat → List ByteArray → Bool → Int → Int → Int → Int → Int → Option (Int × Int × Int × Int × Int × (List (S56)) × Int × Bool)
 | 0, _, _, _, _, _, _, _ => none
 | k + 1, x7, x54, x308000, x308001, x308002, x308003, x308004 => if x54 = true then (some (0, 0, 0, 0, 0, ([] : List (S56)), 0, false)) else (impl_ReadJournal.l0 k 0 x7 (x7.length : Int) 0 x308000 x308001 x308002 x308003 x308004 ([] : List (S56)))
def impl_ReadJournal.l0 : Nat → Int → List ByteArray → Int → Int → Int → Int → Int → Int → Int → List (S56) → Option (Int × Int × Int × Int × Int × (List (S56)) × Int × Bool)
 | 0, _, _, _, _, _, _, _, _, _, _ => none
 | k + 1, x13, x56, x57, x58, x308000, x308001, x308002, x308003, x308004, x308005 => if x58 < x57 then (if 0 ≤ x58 then (if x58 < (x56.length : Int) then (if x58 > 0 then ((impl_told.f k x308000 x308001 x308002 x308003 x308004 x308005 (rdOf ByteArray.empty x56 x58)).bind fun bt310 => (if bt310.2.2.2.2.2.2 = true then ((impl_Frame.f k (rdOf ByteArray.empty x56 x58)).bind fun bt320 => (impl_ReadJournal.l0 k (wrap64 (x13 + (bt320.1.size : Int))) x56 x57 (wrap64 (x58 + 1)) bt310.1 bt310.2.1 bt310.2.2.1 bt310.2.2.2.1 bt310.2.2.2.2.1 bt310.2.2.2.2.2.1)) else (some (x308000, x308001, x308002, x308003, x308004, x308005, x13, true)))) else ((impl_Frame.f k (rdOf ByteArray.empty x56 x58)).bind fun bt322 => (impl_ReadJournal.l0 k (wrap64 (x13 + (bt322.1.size : Int))) x56 x57 (wrap64 (x58 + 1)) x308000 x308001 x308002 x308003 x308004 x308005))) else (none)) else (none)) else (some (x308000, x308001, x308002, x308003, x308004, x308005, x13, true))
end
def impl_ReadJournal.f (k : Nat) (a0 : Int) (a1 : ByteArray) : Option (Int × Int × Int × Int × Int × (List (S56)) × Int × Bool) := (impl_Unframe.f k a1).bind fun bt298 => ((impl_within.f a0 0 999).bind fun t302 => (if t302 = true then (impl_ReadJournal.j0 k a0 bt298.1 ((bt298.1.length : Int) == 0)) else (impl_ReadJournal.j0 k a0 bt298.1 true)))
theorem impl_ReadJournal.mono_l : ∀ k, (∀ y0 y1 y2, LeO (impl_ReadJournal.j0 k y0 y1 y2) (impl_ReadJournal.j0 (k + 1) y0 y1 y2)) ∧ (∀ y0 y1 y2 y3 y4 y5 y6, LeO (impl_ReadJournal.j1 k y0 y1 y2 y3 y4 y5 y6) (impl_ReadJournal.j1 (k + 1) y0 y1 y2 y3 y4 y5 y6)) ∧ (∀ y0 y1 y2 y3 y4 y5 y6 y7 y8 y9, LeO (impl_ReadJournal.l0 k y0 y1 y2 y3 y4 y5 y6 y7 y8 y9) (impl_ReadJournal.l0 (k + 1) y0 y1 y2 y3 y4 y5 y6 y7 y8 y9))
 | 0 => ⟨fun _ _ _ r h => by simp [impl_ReadJournal.j0] at h, fun _ _ _ _ _ _ _ r h => by simp [impl_ReadJournal.j1] at h, fun _ _ _ _ _ _ _ _ _ _ r h => by simp [impl_ReadJournal.l0] at h⟩
 | k + 1 => by
  obtain ⟨ih0, ih1, ih2⟩ := impl_ReadJournal.mono_l k
  refine ⟨?_, ?_, ?_⟩
  ·intro y0 y1 y2
   unfold impl_ReadJournal.j0
   repeat' first
   | (with_reducible exact ih0 _ _ _)
   | (with_reducible exact ih1 _ _ _ _ _ _ _)
   | (with_reducible exact ih2 _ _ _ _ _ _ _ _ _ _)
   | (with_reducible exact impl_Frame.mono _ _)
   | (with_reducible exact impl_LogOk.mono _ _ _ _)
   | (with_reducible exact impl_Unframe.mono _ _)
   | (with_reducible exact impl_told.mono _ _ _ _ _ _ _ _)
   | (with_reducible exact impl_twoNumbers.mono _ _ _)
   | (with_reducible exact LeO.refl _)
   | (with_reducible exact LeO.none _)
   | (with_reducible refine LeO.ite ?_ ?_)
   | (with_reducible refine LeO.bind ?_ (fun _ => ?_))
   | exact ih0 _ _ _
   | exact ih1 _ _ _ _ _ _ _
   | exact ih2 _ _ _ _ _ _ _ _ _ _
   | exact impl_Frame.mono _ _
   | exact impl_LogOk.mono _ _ _ _
   | exact impl_Unframe.mono _ _
   | exact impl_told.mono _ _ _ _ _ _ _ _
   | exact impl_twoNumbers.mono _ _ _
   | exact LeO.none _
   | refine LeO.ite ?_ ?_
   | refine LeO.bind ?_ (fun _ => ?_)
  ·intro y0 y1 y2 y3 y4 y5 y6
   unfold impl_ReadJournal.j1
   repeat' first
   | (with_reducible exact ih0 _ _ _)
   | (with_reducible exact ih1 _ _ _ _ _ _ _)
   | (with_reducible exact ih2 _ _ _ _ _ _ _ _ _ _)
   | (with_reducible exact impl_Frame.mono _ _)
   | (with_reducible exact impl_LogOk.mono _ _ _ _)
   | (with_reducible exact impl_Unframe.mono _ _)
   | (with_reducible exact impl_told.mono _ _ _ _ _ _ _ _)
   | (with_reducible exact impl_twoNumbers.mono _ _ _)
   | (with_reducible exact LeO.refl _)
   | (with_reducible exact LeO.none _)
   | (with_reducible refine LeO.ite ?_ ?_)
   | (with_reducible refine LeO.bind ?_ (fun _ => ?_))
   | exact ih0 _ _ _
   | exact ih1 _ _ _ _ _ _ _
   | exact ih2 _ _ _ _ _ _ _ _ _ _
   | exact impl_Frame.mono _ _
   | exact impl_LogOk.mono _ _ _ _
   | exact impl_Unframe.mono _ _
   | exact impl_told.mono _ _ _ _ _ _ _ _
   | exact impl_twoNumbers.mono _ _ _
   | exact LeO.none _
   | refine LeO.ite ?_ ?_
   | refine LeO.bind ?_ (fun _ => ?_)
  ·intro y0 y1 y2 y3 y4 y5 y6 y7 y8 y9
   unfold impl_ReadJournal.l0
   repeat' first
   | (with_reducible exact ih0 _ _ _)
   | (with_reducible exact ih1 _ _ _ _ _ _ _)
   | (with_reducible exact ih2 _ _ _ _ _ _ _ _ _ _)
   | (with_reducible exact impl_Frame.mono _ _)
   | (with_reducible exact impl_LogOk.mono _ _ _ _)
   | (with_reducible exact impl_Unframe.mono _ _)
   | (with_reducible exact impl_told.mono _ _ _ _ _ _ _ _)
   | (with_reducible exact impl_twoNumbers.mono _ _ _)
   | (with_reducible exact LeO.refl _)
   | (with_reducible exact LeO.none _)
   | (with_reducible refine LeO.ite ?_ ?_)
   | (with_reducible refine LeO.bind ?_ (fun _ => ?_))
   | exact ih0 _ _ _
   | exact ih1 _ _ _ _ _ _ _
   | exact ih2 _ _ _ _ _ _ _ _ _ _
   | exact impl_Frame.mono _ _
   | exact impl_LogOk.mono _ _ _ _
   | exact impl_Unframe.mono _ _
   | exact impl_told.mono _ _ _ _ _ _ _ _
   | exact impl_twoNumbers.mono _ _ _
   | exact LeO.none _
   | refine LeO.ite ?_ ?_
   | refine LeO.bind ?_ (fun _ => ?_)
theorem impl_ReadJournal.mono : ∀ a0 a1 k, LeO (impl_ReadJournal.f k a0 a1) (impl_ReadJournal.f (k + 1) a0 a1) := by
 intro a0 a1 k
 obtain ⟨ih0, ih1, ih2⟩ := impl_ReadJournal.mono_l k
 unfold impl_ReadJournal.f
 repeat' first
   | (with_reducible exact ih0 _ _ _)
   | (with_reducible exact ih1 _ _ _ _ _ _ _)
   | (with_reducible exact ih2 _ _ _ _ _ _ _ _ _ _)
   | (with_reducible exact impl_Frame.mono _ _)
   | (with_reducible exact impl_LogOk.mono _ _ _ _)
   | (with_reducible exact impl_Unframe.mono _ _)
   | (with_reducible exact impl_told.mono _ _ _ _ _ _ _ _)
   | (with_reducible exact impl_twoNumbers.mono _ _ _)
   | (with_reducible exact LeO.refl _)
   | (with_reducible exact LeO.none _)
   | (with_reducible refine LeO.ite ?_ ?_)
   | (with_reducible refine LeO.bind ?_ (fun _ => ?_))
   | exact ih0 _ _ _
   | exact ih1 _ _ _ _ _ _ _
   | exact ih2 _ _ _ _ _ _ _ _ _ _
   | exact impl_Frame.mono _ _
   | exact impl_LogOk.mono _ _ _ _
   | exact impl_Unframe.mono _ _
   | exact impl_told.mono _ _ _ _ _ _ _ _
   | exact impl_twoNumbers.mono _ _ _
   | exact LeO.none _
   | refine LeO.ite ?_ ?_
   | refine LeO.bind ?_ (fun _ => ?_)
set_option maxHeartbeats 8000000 in
set_option maxRecDepth 100000 in
theorem impl_ReadJournal.calls (k : Nat) (a0 : Int) (a1 : ByteArray) (r1 : Int) (r2 : Int) (r3 : Int) (r4 : Int) (r5 : Int) (r6 : List (S56)) (r7 : Int) (r8 : Bool) (w : World) (h : impl_ReadJournal.f k a0 a1 = some (r1, r2, r3, r4, r5, r6, r7, r8)) :
  Calls Try.prog 5 #[.int .i64 a0, .string a1] w fun e w' => ∃ v5_ : Value, e = .returned (.tuple #[.agg #[.int .i64 r1, .int .i64 r2, .int .i64 r3, .int .i64 r4, .int .i64 r5, v5_], .int .i64 r7, .bool r8]) ∧ Kd.R k56 56 w' w.heap.size (fun _ => True) v5_ r6 ∧ Below w.heap.size w w' := by
 have hu26 := Try.underlying26
 have hu24 := Try.underlying24
 have HB := Aside0.mk (Below.refl w.heap.size w)
 have H : ((impl_Unframe.f k a1).bind fun bt298 => ((impl_within.f a0 0 999).bind fun t302 => (if t302 = true then (impl_ReadJournal.j0 k a0 bt298.1 ((bt298.1.length : Int) == 0)) else (impl_ReadJournal.j0 k a0 bt298.1 true)))) = some (r1, r2, r3, r4, r5, r6, r7, r8) := h
 clear h
 replace H := Option.bind_eq_some_iff.mp H
 obtain ⟨⟨t298, t299⟩, A30, H⟩ := H
 try dsimp only at H
 have A3 := Aside0.mk A30
 clear A30
 have HC4 := Aside0.mk H
 clear H
 go_enter Try.func5, Try.ntmps5
 go_upto_region 2 with (first | ((with_reducible refine gate_dst (N := 4) rfl ?_); (try (refine gate_guard (by rfl) ?_; dsimp only)); refine box_event rfl (N := 4) rfl (cs := #[.int .i64 0, .int .i64 0, .int .i64 0, .int .i64 0, .int .i64 0, .slice none 0 0]) (t := 26) zrun ?_; intro gb297 hg w5 hbox hb; have BK297 := am (hbox); have GE297 := zge hg (zb0 HB.out); replace HB := zs0 hb HB; clear hb hbox hg) | ((with_reducible refine gate_callee (f := 15) rfl ?_); refine goesL_ (some 22) rfl rfl Try.func15 (by kernel_rfl) rfl #[.string a1] rfl zr ?_; (with_reducible refine (impl_Unframe.calls k a1 t298 t299 _ A3.out).mono ?_); rintro e w6 ⟨v300, rfl, ho0, hb⟩; refine ⟨_, rfl, ?_⟩; have HO301 := am (Kd.R_lower ho0 (below_size (zb1 HB.out GE297.out))); replace BK297 := zk hb BK297; replace HB := zs1 hb HB GE297; clear hb ho0))
 (try simp only [Act.put, List.setIfInBounds_toArray, List.set_cons_zero, List.set_cons_succ])
 go_cut [32] (fun v32 wc => ∃ (kq : Nat) (x32_3 : Bool), v32 = .bool x32_3 ∧ Aside0 (impl_ReadJournal.j0 kq a0 t298 x32_3 = some (r1, r2, r3, r4, r5, r6, r7, r8)) ∧ Aside0 (kq ≤ k) ∧ Aside0 (Kd.R Kd.string 9 wc w.heap.size (fun _ => True) v300 t298) ∧ Aside0 (wc.heap[gb297]? = some (.cells #[.int .i64 0, .int .i64 0, .int .i64 0, .int .i64 0, .int .i64 0, (.slice none 0 0)] 26 (0, 0))) ∧ Aside0 (Below w.heap.size w wc))
 case first =>
  have H := HC4.out
  clear HC4
  replace H := Option.bind_eq_some_iff.mp H
  obtain ⟨t302, A70, H⟩ := H
  try dsimp only at H
  have A7 := Aside0.mk A70
  clear A70
  by_cases c8 : t302 = true
  ·subst c8
   have H1 : (impl_ReadJournal.j0 k a0 t298 ((t298.length : Int) == 0)) = some (r1, r2, r3, r4, r5, r6, r7, r8) := by rw [if_pos rfl] at H; exact H
   clear H
   have H := H1
   clear H1
   have H' := Aside0.mk H
   clear H
   go_wp2_with (first | ((with_reducible refine gate_callee (f := 16) rfl ?_); refine goesL_ (some 26) rfl rfl Try.func16 (by kernel_rfl) rfl #[.int .i64 a0, .int .i64 0, .int .i64 999] rfl zr ?_; (with_reducible refine (impl_within.calls a0 0 999 true _ A7.out).mono ?_); rintro e w' ⟨rfl, ⟨nd, rfl⟩⟩; refine ⟨_, rfl, ?_⟩; obtain ⟨Ao9, co9, eo9⟩ := Kd.R_slice HO301.out; subst eo9))
   go_meet
   case rel => exact ⟨_, (((t298.length : Int) == 0)), (by first | rfl | (simp; done) | (simp [*]; done)), H', ⟨by first | omega | exact Nat.le_refl _⟩, ⟨rx HO301.out⟩, ⟨kx BK297.out⟩, ⟨zb1 HB.out GE297.out⟩⟩
  ·replace c8 := Bool.eq_false_iff.mpr c8
   subst c8
   have H1 : (impl_ReadJournal.j0 k a0 t298 true) = some (r1, r2, r3, r4, r5, r6, r7, r8) := by rw [if_neg (show ¬ (false = true) by decide)] at H; exact H
   clear H
   have H := H1
   clear H1
   have H' := Aside0.mk H
   clear H
   go_wp2_with (first | ((with_reducible refine gate_callee (f := 16) rfl ?_); refine goesL_ (some 26) rfl rfl Try.func16 (by kernel_rfl) rfl #[.int .i64 a0, .int .i64 0, .int .i64 999] rfl zr ?_; (with_reducible refine (impl_within.calls a0 0 999 false _ A7.out).mono ?_); rintro e w' ⟨rfl, ⟨nd, rfl⟩⟩; refine ⟨_, rfl, ?_⟩))
   go_meet
   case rel => exact ⟨_, (true), (by first | rfl | (simp; done) | (simp [*]; done)), H', ⟨by first | omega | exact Nat.le_refl _⟩, ⟨rx HO301.out⟩, ⟨kx BK297.out⟩, ⟨zb1 HB.out GE297.out⟩⟩
 case rest =>
  clear HC4
  obtain ⟨kq, x32_3, rfl, HA, HJ3, HO_7, BK297, HB⟩ := hcut
  cases kq with
  | zero => exact absurd HA.out (by simp [impl_ReadJournal.j0])
  | succ kj3 =>
   have H := HA.out
   clear HA
   simp only [impl_ReadJournal.j0] at H
   by_cases c10 : x32_3 = true
   ·subst c10
    have H1 : (some (0, 0, 0, 0, 0, ([] : List (S56)), 0, false)) = some (r1, r2, r3, r4, r5, r6, r7, r8) := by rw [if_pos rfl] at H; exact H
    clear H
    have H := H1
    clear H1
    simp only [Option.some.injEq, Prod.mk.injEq] at H
    obtain ⟨rfl, rfl, rfl, rfl, rfl, rfl, rfl, rfl⟩ := H
    obtain ⟨hcz11_0, hcz11_1, hcz11_2, hcz11_3, hcz11_4, hcz11_5, hfz11_0, hfz11_1, hfz11_2, hfz11_3, hfz11_4, hfz11_5⟩ := zc6 BK297.out
    go_wp2
    refine bodyPost_ret (results_ctt rfl _ _ gb297 26 #[.int .i64 0, .int .i64 0, .int .i64 0, .int .i64 0, .int .i64 0, .slice none 0 0] (0, 0) _ rfl (by (with_reducible repeat (first | refine blk_drewN ?_ _ | refine blk_drew ?_ | refine blk_alloc ?_ _)); refine blk_put (cs := #[.int .i64 0, .int .i64 0, .int .i64 0, .int .i64 0, .int .i64 0, .slice none 0 0]) ?_ 5 _ rfl; (with_reducible repeat (first | refine blk_drewN ?_ _ | refine blk_drew ?_ | refine blk_alloc ?_ _)); refine blk_put (cs := #[.int .i64 0, .int .i64 0, .int .i64 0, .int .i64 0, .int .i64 0, .slice none 0 0]) ?_ 4 _ rfl; (with_reducible repeat (first | refine blk_drewN ?_ _ | refine blk_drew ?_ | refine blk_alloc ?_ _)); refine blk_put (cs := #[.int .i64 0, .int .i64 0, .int .i64 0, .int .i64 0, .int .i64 0, .slice none 0 0]) ?_ 3 _ rfl; (with_reducible repeat (first | refine blk_drewN ?_ _ | refine blk_drew ?_ | refine blk_alloc ?_ _)); refine blk_put (cs := #[.int .i64 0, .int .i64 0, .int .i64 0, .int .i64 0, .int .i64 0, .slice none 0 0]) ?_ 2 _ rfl; (with_reducible repeat (first | refine blk_drewN ?_ _ | refine blk_drew ?_ | refine blk_alloc ?_ _)); refine blk_put (cs := #[.int .i64 0, .int .i64 0, .int .i64 0, .int .i64 0, .int .i64 0, .slice none 0 0]) ?_ 1 _ rfl; (with_reducible repeat (first | refine blk_drewN ?_ _ | refine blk_drew ?_ | refine blk_alloc ?_ _)); refine blk_put (cs := #[.int .i64 0, .int .i64 0, .int .i64 0, .int .i64 0, .int .i64 0, .slice none 0 0]) ?_ 0 _ rfl; (with_reducible repeat (first | refine blk_drewN ?_ _ | refine blk_drew ?_ | refine blk_alloc ?_ _)); exact BK297.out) Try.underlying26 rfl (by kernel_rfl)) rfl ?_
    exact ⟨_, by first | rfl | (simp [errW_none, errW_some] <;> rfl) | (simp [*, errW_none, errW_some] <;> rfl), by first | exact Kd.R_nil _ _ _ _ _ | exact Kd.N_nil _ _ _ _ _ | exact Kd.V_nil _ _ _ _ _ | exact Kd.Q_nil _ _ _ _ _ | exact Kd.S_nil _ _ _ _ _, zb1 HB.out GE297.out⟩
   ·replace c10 := Bool.eq_false_iff.mpr c10
    subst c10
    have H1 : (if 0 < (t298.length : Int) then ((impl_twoNumbers.f kj3 (rdOf ByteArray.empty t298 0) 66).bind fun bt304 => (if bt304.2.2 = true then ((impl_LogOk.f kj3 bt304.1 bt304.2.1 ([] : List (S56))).bind fun t308 => (impl_ReadJournal.j1 kj3 t298 (!t308) a0 0 0 bt304.1 bt304.2.1)) else (impl_ReadJournal.j1 kj3 t298 true a0 0 0 bt304.1 bt304.2.1))) else (none)) = some (r1, r2, r3, r4, r5, r6, r7, r8) := by rw [if_neg (show ¬ (false = true) by decide)] at H; exact H
    clear H
    have H := H1
    clear H1
    by_cases c12 : 0 < (t298.length : Int)
    ·rw [if_pos c12] at H
     have c12b0 : decide (0 < (t298.length : Int)) = true := decide_eq_true c12
     have c12b1 : decide (0 < t298.length) = true := decide_eq_true (by omega)
     clear c12
     replace H := Option.bind_eq_some_iff.mp H
     obtain ⟨⟨t304, t305, t306⟩, A130, H⟩ := H
     try dsimp only at H
     have A13 := Aside0.mk A130
     clear A130
     have HC14 := Aside0.mk H
     clear H
     obtain ⟨Ao15, co15, eo15⟩ := Kd.R_slice HO_7.out
     subst eo15
     have p303 : 0 ≤ (0 : Int) := (by omega)
     have q303 : 0 < (t298.length : Int) := of_decide_eq_true (by first | (with_reducible assumption) | assumption)
     obtain ⟨ad303, e303, hx303_0⟩ := Kd.at_string (Kd.R_reads' HO_7.out).2.2 0 p303 q303
     cases e303
     have qi303 : (0 < t298.length) = True := eq_true (by omega)
     (try rw [show ((0 : Int)).toNat = 0 from rfl] at hx303_0)
     (try rw [Addr.add_zero'] at hx303_0)
     replace p303 := eq_true p303
     replace q303 := eq_true q303
     go_upto_region 6 with (first | ((with_reducible refine gate_callee (f := 17) rfl ?_); refine goesL_ (some 38) rfl rfl Try.func17 (by kernel_rfl) rfl #[.string (rdOf ByteArray.empty t298 0), .int .i64 66] rfl zr ?_; (with_reducible refine (impl_twoNumbers.calls kj3 (rdOf ByteArray.empty t298 0) 66 t304 t305 t306 _ A13.out).mono ?_); rintro e w16 ⟨rfl, hb⟩; refine ⟨_, rfl, ?_⟩; replace HO_7 := am (Kd.R_below (rx HO_7.out) hb); replace BK297 := zk hb BK297; replace HB := zs1 hb HB GE297; clear hb) | ((with_reducible refine gate_dst (N := 12) rfl ?_); (try (refine gate_guard (by rfl) ?_; dsimp only)); refine box_event rfl (N := 12) rfl (cs := #[.int .i64 0, .int .i64 0, .int .i64 0, .int .i64 0, .int .i64 0, .slice none 0 0]) (t := 26) zrun ?_; intro gb307 hg w17 hbox hb; have BK307 := am (hbox); have GE307 := zge hg (zb1 HB.out GE297.out); obtain ⟨NB297_307, NB307_297⟩ := zne hg BK297; replace HO_7 := am (Kd.R_below (rx HO_7.out) hb); replace BK297 := zk hb BK297; replace HB := zs1 hb HB GE297; clear hb hbox hg; obtain ⟨hnb18, hnc18⟩ := zn2 NB307_297; obtain ⟨hcz19_0, hcz19_1, hcz19_2, hcz19_3, hcz19_4, hcz19_5, hfz19_0, hfz19_1, hfz19_2, hfz19_3, hfz19_4, hfz19_5⟩ := zc6 BK307.out))
     (try simp only [Act.put, List.setIfInBounds_toArray, List.set_cons_zero, List.set_cons_succ])
     go_cut [54] (fun v54 wc => ∃ (kq : Nat) (x54_13 : Bool), v54 = .bool x54_13 ∧ Aside0 (impl_ReadJournal.j1 kq t298 x54_13 a0 0 0 t304 t305 = some (r1, r2, r3, r4, r5, r6, r7, r8)) ∧ Aside0 (kq ≤ kj3) ∧ Aside0 (Kd.R Kd.string 9 wc w.heap.size (fun _ => True) (.slice (some ad303) t298.length co15) t298) ∧ Aside0 (wc.heap[gb297]? = some (.cells #[.int .i64 0, .int .i64 0, .int .i64 0, .int .i64 0, .int .i64 0, (.slice none 0 0)] 26 (0, 0))) ∧ Aside0 (wc.heap[gb307]? = some (.cells #[.int .i64 a0, .int .i64 0, .int .i64 0, .int .i64 t304, .int .i64 t305, (.slice none 0 0)] 26 (0, 0))) ∧ Aside0 (Below w.heap.size w wc))
     case first =>
      have H := HC14.out
      clear HC14
      by_cases c20 : t306 = true
      ·subst c20
       have H1 : ((impl_LogOk.f kj3 t304 t305 ([] : List (S56))).bind fun t308 => (impl_ReadJournal.j1 kj3 t298 (!t308) a0 0 0 t304 t305)) = some (r1, r2, r3, r4, r5, r6, r7, r8) := by rw [if_pos rfl] at H; exact H
       clear H
       have H := H1
       clear H1
       replace H := Option.bind_eq_some_iff.mp H
       obtain ⟨t308, A210, H⟩ := H
       try dsimp only at H
       have A21 := Aside0.mk A210
       clear A210
       have H' := Aside0.mk H
       clear H
       obtain ⟨hnb22, hnc22⟩ := zn2 NB307_297
       obtain ⟨hcz23_0, hcz23_1, hcz23_2, hcz23_3, hcz23_4, hcz23_5, hfz23_0, hfz23_1, hfz23_2, hfz23_3, hfz23_4, hfz23_5⟩ := zc6 BK307.out
       go_wp2_with (first | (go_at_call 18; (refine (impl_LogOk.calls kj3 t304 t305 _ _ ([] : List (S56)) t308 _ ?side1 ?side2 A21.out).mono ?_); (case side1 => exact Kd.C_nil _ _); (case side2 => exact Nat.le_refl _); rintro e w24 ⟨rfl, hb⟩; replace HO_7 := am (Kd.R_below (rx ((Kd.R_mono (Kd.R_far (p := ⟨gb307, 5, none⟩) (Kd.R_far (p := ⟨gb307, 4, none⟩) (Kd.R_far (p := ⟨gb307, 3, none⟩) (Kd.R_far (p := ⟨gb307, 2, none⟩) (Kd.R_far (p := ⟨gb307, 1, none⟩) (Kd.R_far (p := ⟨gb307, 0, none⟩) (Kd.R_types HO_7.out BK307.out (by decide)) (fun _ hk => hk.2) (.int .i64 a0)) (fun _ hk => hk.2) (.int .i64 0)) (fun _ hk => hk.2) (.int .i64 0)) (fun _ hk => hk.2) (.int .i64 t304)) (fun _ hk => hk.2) (.int .i64 t305)) (fun _ hk => hk.2) (.slice none 0 0)) (fun _ h_ => h_.1)))) hb); replace BK297 := zh1 hb BK297 NB297_307; replace BK307 := am (blk_below (g := gb307) (o := .cells #[.int .i64 a0, .int .i64 0, .int .i64 0, .int .i64 t304, .int .i64 t305, .slice none 0 0] 26 (0, 0)) (by (with_reducible repeat (first | refine blk_drewN ?_ _ | refine blk_drew ?_ | refine blk_alloc ?_ _)); refine blk_put (cs := #[.int .i64 a0, .int .i64 0, .int .i64 0, .int .i64 t304, .int .i64 t305, .slice none 0 0]) ?_ 5 _ rfl; (with_reducible repeat (first | refine blk_drewN ?_ _ | refine blk_drew ?_ | refine blk_alloc ?_ _)); refine blk_put (cs := #[.int .i64 a0, .int .i64 0, .int .i64 0, .int .i64 t304, .int .i64 0, .slice none 0 0]) ?_ 4 _ rfl; (with_reducible repeat (first | refine blk_drewN ?_ _ | refine blk_drew ?_ | refine blk_alloc ?_ _)); refine blk_put (cs := #[.int .i64 a0, .int .i64 0, .int .i64 0, .int .i64 0, .int .i64 0, .slice none 0 0]) ?_ 3 _ rfl; (with_reducible repeat (first | refine blk_drewN ?_ _ | refine blk_drew ?_ | refine blk_alloc ?_ _)); refine blk_put (cs := #[.int .i64 a0, .int .i64 0, .int .i64 0, .int .i64 0, .int .i64 0, .slice none 0 0]) ?_ 2 _ rfl; (with_reducible repeat (first | refine blk_drewN ?_ _ | refine blk_drew ?_ | refine blk_alloc ?_ _)); refine blk_put (cs := #[.int .i64 a0, .int .i64 0, .int .i64 0, .int .i64 0, .int .i64 0, .slice none 0 0]) ?_ 1 _ rfl; (with_reducible repeat (first | refine blk_drewN ?_ _ | refine blk_drew ?_ | refine blk_alloc ?_ _)); refine blk_put (cs := #[.int .i64 0, .int .i64 0, .int .i64 0, .int .i64 0, .int .i64 0, .slice none 0 0]) ?_ 0 _ rfl; (with_reducible repeat (first | refine blk_drewN ?_ _ | refine blk_drew ?_ | refine blk_alloc ?_ _)); exact BK307.out) hb); replace HB := zs2 hb HB GE297 GE307; clear hb))
       go_meet
       case rel => exact ⟨_, (!t308), (by first | rfl | (simp; done) | (simp [*]; done)), H', ⟨by have := HJ3.out; first | omega | exact Nat.le_refl _⟩, ⟨rx HO_7.out⟩, ⟨kx BK297.out⟩, ⟨kx BK307.out⟩, ⟨zb2 HB.out GE297.out GE307.out⟩⟩
      ·replace c20 := Bool.eq_false_iff.mpr c20
       subst c20
       have H1 : (impl_ReadJournal.j1 kj3 t298 true a0 0 0 t304 t305) = some (r1, r2, r3, r4, r5, r6, r7, r8) := by rw [if_neg (show ¬ (false = true) by decide)] at H; exact H
       clear H
       have H := H1
       clear H1
       have H' := Aside0.mk H
       clear H
       go_wp2
       go_meet
       case rel => exact ⟨_, (true), (by first | rfl | (simp; done) | (simp [*]; done)), H', ⟨by have := HJ3.out; first | omega | exact Nat.le_refl _⟩, ⟨rx (Kd.R_mono (Kd.R_far (p := ⟨gb307, 5, none⟩) (Kd.R_far (p := ⟨gb307, 4, none⟩) (Kd.R_far (p := ⟨gb307, 3, none⟩) (Kd.R_far (p := ⟨gb307, 2, none⟩) (Kd.R_far (p := ⟨gb307, 1, none⟩) (Kd.R_far (p := ⟨gb307, 0, none⟩) (Kd.R_types HO_7.out BK307.out (by decide)) (fun _ hk => hk.2) (.int .i64 a0)) (fun _ hk => hk.2) (.int .i64 0)) (fun _ hk => hk.2) (.int .i64 0)) (fun _ hk => hk.2) (.int .i64 t304)) (fun _ hk => hk.2) (.int .i64 t305)) (fun _ hk => hk.2) (.slice none 0 0)) (fun _ hk => trivial))⟩, ⟨zf1 BK297.out NB297_307.out⟩, ⟨by (with_reducible repeat (first | refine blk_drewN ?_ _ | refine blk_drew ?_ | refine blk_alloc ?_ _)); refine blk_put (cs := #[.int .i64 a0, .int .i64 0, .int .i64 0, .int .i64 t304, .int .i64 t305, .slice none 0 0]) ?_ 5 _ rfl; (with_reducible repeat (first | refine blk_drewN ?_ _ | refine blk_drew ?_ | refine blk_alloc ?_ _)); refine blk_put (cs := #[.int .i64 a0, .int .i64 0, .int .i64 0, .int .i64 t304, .int .i64 0, .slice none 0 0]) ?_ 4 _ rfl; (with_reducible repeat (first | refine blk_drewN ?_ _ | refine blk_drew ?_ | refine blk_alloc ?_ _)); refine blk_put (cs := #[.int .i64 a0, .int .i64 0, .int .i64 0, .int .i64 0, .int .i64 0, .slice none 0 0]) ?_ 3 _ rfl; (with_reducible repeat (first | refine blk_drewN ?_ _ | refine blk_drew ?_ | refine blk_alloc ?_ _)); refine blk_put (cs := #[.int .i64 a0, .int .i64 0, .int .i64 0, .int .i64 0, .int .i64 0, .slice none 0 0]) ?_ 2 _ rfl; (with_reducible repeat (first | refine blk_drewN ?_ _ | refine blk_drew ?_ | refine blk_alloc ?_ _)); refine blk_put (cs := #[.int .i64 a0, .int .i64 0, .int .i64 0, .int .i64 0, .int .i64 0, .slice none 0 0]) ?_ 1 _ rfl; (with_reducible repeat (first | refine blk_drewN ?_ _ | refine blk_drew ?_ | refine blk_alloc ?_ _)); refine blk_put (cs := #[.int .i64 0, .int .i64 0, .int .i64 0, .int .i64 0, .int .i64 0, .slice none 0 0]) ?_ 0 _ rfl; (with_reducible repeat (first | refine blk_drewN ?_ _ | refine blk_drew ?_ | refine blk_alloc ?_ _)); exact BK307.out⟩, ⟨zb2 HB.out GE297.out GE307.out⟩⟩
     case rest =>
      clear HC14
      obtain ⟨kq, x54_13, rfl, HA, HJ13, HO_7, BK297, BK307, HB⟩ := hcut
      cases kq with
      | zero => exact absurd HA.out (by simp [impl_ReadJournal.j1])
      | succ kj13 =>
       have H := HA.out
       clear HA
       simp only [impl_ReadJournal.j1] at H
       by_cases c25 : x54_13 = true
       ·subst c25
        have H1 : (some (0, 0, 0, 0, 0, ([] : List (S56)), 0, false)) = some (r1, r2, r3, r4, r5, r6, r7, r8) := by rw [if_pos rfl] at H; exact H
        clear H
        have H := H1
        clear H1
        simp only [Option.some.injEq, Prod.mk.injEq] at H
        obtain ⟨rfl, rfl, rfl, rfl, rfl, rfl, rfl, rfl⟩ := H
        obtain ⟨hnb26, hnc26⟩ := zn2 NB297_307
        obtain ⟨hcz27_0, hcz27_1, hcz27_2, hcz27_3, hcz27_4, hcz27_5, hfz27_0, hfz27_1, hfz27_2, hfz27_3, hfz27_4, hfz27_5⟩ := zc6 BK297.out
        go_wp2
        refine bodyPost_ret (results_ctt rfl _ _ gb297 26 #[.int .i64 0, .int .i64 0, .int .i64 0, .int .i64 0, .int .i64 0, .slice none 0 0] (0, 0) _ rfl (by (with_reducible repeat (first | refine blk_drewN ?_ _ | refine blk_drew ?_ | refine blk_alloc ?_ _)); refine blk_put (cs := #[.int .i64 0, .int .i64 0, .int .i64 0, .int .i64 0, .int .i64 0, .slice none 0 0]) ?_ 5 _ rfl; (with_reducible repeat (first | refine blk_drewN ?_ _ | refine blk_drew ?_ | refine blk_alloc ?_ _)); refine blk_put (cs := #[.int .i64 0, .int .i64 0, .int .i64 0, .int .i64 0, .int .i64 0, .slice none 0 0]) ?_ 4 _ rfl; (with_reducible repeat (first | refine blk_drewN ?_ _ | refine blk_drew ?_ | refine blk_alloc ?_ _)); refine blk_put (cs := #[.int .i64 0, .int .i64 0, .int .i64 0, .int .i64 0, .int .i64 0, .slice none 0 0]) ?_ 3 _ rfl; (with_reducible repeat (first | refine blk_drewN ?_ _ | refine blk_drew ?_ | refine blk_alloc ?_ _)); refine blk_put (cs := #[.int .i64 0, .int .i64 0, .int .i64 0, .int .i64 0, .int .i64 0, .slice none 0 0]) ?_ 2 _ rfl; (with_reducible repeat (first | refine blk_drewN ?_ _ | refine blk_drew ?_ | refine blk_alloc ?_ _)); refine blk_put (cs := #[.int .i64 0, .int .i64 0, .int .i64 0, .int .i64 0, .int .i64 0, .slice none 0 0]) ?_ 1 _ rfl; (with_reducible repeat (first | refine blk_drewN ?_ _ | refine blk_drew ?_ | refine blk_alloc ?_ _)); refine blk_put (cs := #[.int .i64 0, .int .i64 0, .int .i64 0, .int .i64 0, .int .i64 0, .slice none 0 0]) ?_ 0 _ rfl; (with_reducible repeat (first | refine blk_drewN ?_ _ | refine blk_drew ?_ | refine blk_alloc ?_ _)); exact BK297.out) Try.underlying26 rfl (by kernel_rfl)) rfl ?_
        exact ⟨_, by first | rfl | (simp [errW_none, errW_some] <;> rfl) | (simp [*, errW_none, errW_some] <;> rfl), by first | exact Kd.R_nil _ _ _ _ _ | exact Kd.N_nil _ _ _ _ _ | exact Kd.V_nil _ _ _ _ _ | exact Kd.Q_nil _ _ _ _ _ | exact Kd.S_nil _ _ _ _ _, zb2 HB.out GE297.out GE307.out⟩
       ·replace c25 := Bool.eq_false_iff.mpr c25
        subst c25
        have H1 : (impl_ReadJournal.l0 kj13 0 t298 (t298.length : Int) 0 a0 0 0 t304 t305 ([] : List (S56))) = some (r1, r2, r3, r4, r5, r6, r7, r8) := by rw [if_neg (show ¬ (false = true) by decide)] at H; exact H
        clear H
        have H := H1
        clear H1
        have H' := Aside0.mk H
        clear H
        go_wp2
        go_loopg [13, 58] kj13 (fun kq v13 v58 w' => ∃ (x13_3 : Int) (x58_3 : Int) (x308000_3 : Int) (x308001_3 : Int) (x308002_3 : Int) (x308003_3 : Int) (x308004_3 : Int) (x308005_3 : List (S56)) (u308005 : Value), v13 = .int .i64 x13_3 ∧ v58 = .int .i64 x58_3 ∧ Aside0 (impl_ReadJournal.l0 kq x13_3 t298 (t298.length : Int) x58_3 x308000_3 x308001_3 x308002_3 x308003_3 x308004_3 x308005_3 = some (r1, r2, r3, r4, r5, r6, r7, r8)) ∧ Aside0 (kq ≤ kj13) ∧ Aside0 (Kd.R Kd.string 9 w' w.heap.size (fun _ => True) (.slice (some ad303) t298.length co15) t298) ∧ Aside0 (Kd.R k56 56 w' w.heap.size (fun _ => True) u308005 x308005_3) ∧ Aside0 (w'.heap[gb297]? = some (.cells #[.int .i64 0, .int .i64 0, .int .i64 0, .int .i64 0, .int .i64 0, (.slice none 0 0)] 26 (0, 0))) ∧ Aside0 (w'.heap[gb307]? = some (.cells #[.int .i64 x308000_3, .int .i64 x308001_3, .int .i64 x308002_3, .int .i64 x308003_3, .int .i64 x308004_3, u308005] 26 (0, 0))) ∧ Aside0 (Below w.heap.size w w'))
        case atStart => exact ⟨(0), (0), (a0), (0), (0), (t304), (t305), (([] : List (S56))), (.slice none 0 0), (by first | rfl | (simp; done) | (simp [*]; done)), (by first | rfl | (simp; done) | (simp [*]; done)), H', ⟨Nat.le_refl _⟩, ⟨rx HO_7.out⟩, ⟨by first | exact Kd.R_nil _ _ _ _ _ | exact Kd.N_nil _ _ _ _ _ | exact Kd.V_nil _ _ _ _ _ | exact Kd.Q_nil _ _ _ _ _ | exact Kd.S_nil _ _ _ _ _⟩, ⟨kx BK297.out⟩, ⟨kx BK307.out⟩, ⟨zb2 HB.out GE297.out GE307.out⟩⟩
        case round =>
         clear H'
         obtain ⟨x13_3, x58_3, x308000_3, x308001_3, x308002_3, x308003_3, x308004_3, x308005_3, u308005, rfl, rfl, HA, HK3, HO_56, HO_308005, BK297, BK307, HB⟩ := hrel
         cases gk with
         | zero => exact absurd HA.out (by simp [impl_ReadJournal.l0])
         | succ k3 =>
          have H := HA.out
          clear HA
          simp only [impl_ReadJournal.l0] at H
          by_cases c28 : x58_3 < (t298.length : Int)
          ·rw [if_pos c28] at H
           have c28b0 : decide (x58_3 < (t298.length : Int)) = true := decide_eq_true c28
           have c28b1 : decide ((t298.length : Int) ≤ x58_3) = false := decide_eq_false (by omega)
           clear c28
           by_cases c29 : 0 ≤ x58_3
           ·rw [if_pos c29] at H
            have c29b0 : decide (0 ≤ x58_3) = true := decide_eq_true c29
            clear c29
            by_cases c30 : x58_3 < (t298.length : Int)
            ·rw [if_pos c30] at H
             have c30b0 : decide (x58_3 < (t298.length : Int)) = true := decide_eq_true c30
             have c30b1 : decide ((t298.length : Int) ≤ x58_3) = false := decide_eq_false (by omega)
             clear c30
             by_cases c31 : x58_3 > 0
             ·rw [if_pos c31] at H
              have c31b0 : decide (0 < x58_3) = true := decide_eq_true c31
              clear c31
              replace H := Option.bind_eq_some_iff.mp H
              obtain ⟨⟨t310, t311, t312, t313, t314, t315, t318⟩, A320, H⟩ := H
              try dsimp only at H
              have A32 := Aside0.mk A320
              clear A320
              by_cases c33 : t318 = true
              ·subst c33
               have H1 : ((impl_Frame.f k3 (rdOf ByteArray.empty t298 x58_3)).bind fun bt320 => (impl_ReadJournal.l0 k3 (wrap64 (x13_3 + (bt320.1.size : Int))) t298 (t298.length : Int) (wrap64 (x58_3 + 1)) t310 t311 t312 t313 t314 t315)) = some (r1, r2, r3, r4, r5, r6, r7, r8) := by rw [if_pos rfl] at H; exact H
               clear H
               have H := H1
               clear H1
               replace H := Option.bind_eq_some_iff.mp H
               obtain ⟨⟨t320, t321⟩, A340, H⟩ := H
               try dsimp only at H
               have A34 := Aside0.mk A340
               clear A340
               have H' := Aside0.mk H
               clear H
               have p309 : 0 ≤ (x58_3 : Int) := of_decide_eq_true (by first | (with_reducible assumption) | assumption)
               have q309 : x58_3 < (t298.length : Int) := of_decide_eq_true (by first | (with_reducible assumption) | assumption)
               obtain ⟨ad309, e309, hx309_0⟩ := Kd.at_string (Kd.R_reads' HO_56.out).2.2 x58_3 p309 q309
               obtain rfl : ad303 = ad309 := (by injection e309)
               replace p309 := eq_true p309
               replace q309 := eq_true q309
               obtain ⟨hnb35, hnc35⟩ := zn2 NB307_297
               obtain ⟨hcz36_0, hcz36_1, hcz36_2, hcz36_3, hcz36_4, hcz36_5, hfz36_0, hfz36_1, hfz36_2, hfz36_3, hfz36_4, hfz36_5⟩ := zc6 BK307.out
               obtain ⟨Ao37, co37, eo37⟩ := Kd.R_slice HO_308005.out
               subst eo37
               go_wp2_with (first | ((with_reducible refine gate_callee (f := 19) rfl ?_); refine goesL_ (some 68) rfl rfl Try.func19 (by kernel_rfl) rfl #[.agg #[.int .i64 x308000_3, .int .i64 x308001_3, .int .i64 x308002_3, .int .i64 x308003_3, .int .i64 x308004_3, .slice Ao37 x308005_3.length co37], .string (rdOf ByteArray.empty t298 x58_3)] rfl zr ?_; (with_reducible refine (impl_told.calls k3 x308000_3 x308001_3 x308002_3 x308003_3 x308004_3 _ x308005_3 (rdOf ByteArray.empty t298 x58_3) t310 t311 t312 t313 t314 t315 true w _ ?side1 ?side2 A32.out).mono ?_); (case side1 => exact (zb2 HB.out GE297.out GE307.out)); (case side2 => exact (rx HO_308005.out)); rintro e w38 ⟨v316, rfl, ho0, hb⟩; refine ⟨_, rfl, ?_⟩; have HO317 := am (ho0); replace HO_56 := am (Kd.R_below (rx HO_56.out) hb); replace HO_308005 := am (Kd.R_below (rx HO_308005.out) hb); replace BK297 := zk hb BK297; replace BK307 := zk hb BK307; replace HB := zs2 hb HB GE297 GE307; clear hb ho0) | ((with_reducible refine gate_dst (N := 16) rfl ?_); (try (refine gate_guard (by rfl) ?_; dsimp only)); refine box_event rfl (N := 16) rfl (cs := #[.int .i64 0, .int .i64 0, .int .i64 0, .int .i64 0, .int .i64 0, .slice none 0 0]) (t := 26) zrun ?_; intro gb319 hg w39 hbox hb; have BK319 := am (hbox); have GW319 := zge hg (zb2 HB.out GE297.out GE307.out); have GE319 := zge hg (zb2 HB.out GE297.out GE307.out); obtain ⟨NB297_319, NB319_297⟩ := zne hg BK297; obtain ⟨NB307_319, NB319_307⟩ := zne hg BK307; replace HO_56 := am (Kd.R_below (rx HO_56.out) hb); replace HO_308005 := am (Kd.R_below (rx HO_308005.out) hb); replace HO317 := am (Kd.R_below (rx HO317.out) hb); replace BK297 := zk hb BK297; replace BK307 := zk hb BK307; replace HB := zs2 hb HB GE297 GE307; clear hb hbox hg; obtain ⟨hnb40, hnc40⟩ := zn2 NB319_297; obtain ⟨hnb41, hnc41⟩ := zn2 NB319_307; obtain ⟨hcz42_0, hcz42_1, hcz42_2, hcz42_3, hcz42_4, hcz42_5, hfz42_0, hfz42_1, hfz42_2, hfz42_3, hfz42_4, hfz42_5⟩ := zc6 BK319.out; obtain ⟨Ao43, co43, eo43⟩ := Kd.R_slice HO317.out; subst eo43; obtain ⟨hcz44_0, hcz44_1, hcz44_2, hcz44_3, hcz44_4, hcz44_5, hfz44_0, hfz44_1, hfz44_2, hfz44_3, hfz44_4, hfz44_5⟩ := zc6 BK307.out) | ((with_reducible refine gate_callee (f := 20) rfl ?_); refine goesL_ (some 76) rfl rfl Try.func20 (by kernel_rfl) rfl #[.string (rdOf ByteArray.empty t298 x58_3)] rfl zr ?_; (with_reducible refine (impl_Frame.calls k3 (rdOf ByteArray.empty t298 x58_3) t320 t321 _ A34.out).mono ?_); rintro e w45 ⟨rfl, hb⟩; refine ⟨_, rfl, ?_⟩; replace HO_56 := am (Kd.R_below (rx ((Kd.R_mono (Kd.R_mono (Kd.R_far (p := ⟨gb307, 5, none⟩) (Kd.R_far (p := ⟨gb307, 4, none⟩) (Kd.R_far (p := ⟨gb307, 3, none⟩) (Kd.R_far (p := ⟨gb307, 2, none⟩) (Kd.R_far (p := ⟨gb307, 1, none⟩) (Kd.R_far (p := ⟨gb307, 0, none⟩) (Kd.R_far (p := ⟨gb319, 5, none⟩) (Kd.R_far (p := ⟨gb319, 4, none⟩) (Kd.R_far (p := ⟨gb319, 3, none⟩) (Kd.R_far (p := ⟨gb319, 2, none⟩) (Kd.R_far (p := ⟨gb319, 1, none⟩) (Kd.R_far (p := ⟨gb319, 0, none⟩) (Kd.R_types (Kd.R_types HO_56.out BK319.out (by decide)) BK307.out (by decide)) (fun _ hk => hk.1.2) (.int .i64 t310)) (fun _ hk => hk.1.2) (.int .i64 t311)) (fun _ hk => hk.1.2) (.int .i64 t312)) (fun _ hk => hk.1.2) (.int .i64 t313)) (fun _ hk => hk.1.2) (.int .i64 t314)) (fun _ hk => hk.1.2) (.slice Ao43 t315.length co43)) (fun _ hk => hk.2) (.int .i64 t310)) (fun _ hk => hk.2) (.int .i64 t311)) (fun _ hk => hk.2) (.int .i64 t312)) (fun _ hk => hk.2) (.int .i64 t313)) (fun _ hk => hk.2) (.int .i64 t314)) (fun _ hk => hk.2) (.slice Ao43 t315.length co43)) (fun _ h_ => h_.1)) (fun _ h_ => h_.1)))) hb); replace HO_308005 := am (Kd.R_below (rx ((Kd.R_mono (Kd.R_mono (Kd.R_far (p := ⟨gb307, 5, none⟩) (Kd.R_far (p := ⟨gb307, 4, none⟩) (Kd.R_far (p := ⟨gb307, 3, none⟩) (Kd.R_far (p := ⟨gb307, 2, none⟩) (Kd.R_far (p := ⟨gb307, 1, none⟩) (Kd.R_far (p := ⟨gb307, 0, none⟩) (Kd.R_far (p := ⟨gb319, 5, none⟩) (Kd.R_far (p := ⟨gb319, 4, none⟩) (Kd.R_far (p := ⟨gb319, 3, none⟩) (Kd.R_far (p := ⟨gb319, 2, none⟩) (Kd.R_far (p := ⟨gb319, 1, none⟩) (Kd.R_far (p := ⟨gb319, 0, none⟩) (Kd.R_types (Kd.R_types HO_308005.out BK319.out (by decide)) BK307.out (by decide)) (fun _ hk => hk.1.2) (.int .i64 t310)) (fun _ hk => hk.1.2) (.int .i64 t311)) (fun _ hk => hk.1.2) (.int .i64 t312)) (fun _ hk => hk.1.2) (.int .i64 t313)) (fun _ hk => hk.1.2) (.int .i64 t314)) (fun _ hk => hk.1.2) (.slice Ao43 t315.length co43)) (fun _ hk => hk.2) (.int .i64 t310)) (fun _ hk => hk.2) (.int .i64 t311)) (fun _ hk => hk.2) (.int .i64 t312)) (fun _ hk => hk.2) (.int .i64 t313)) (fun _ hk => hk.2) (.int .i64 t314)) (fun _ hk => hk.2) (.slice Ao43 t315.length co43)) (fun _ h_ => h_.1)) (fun _ h_ => h_.1)))) hb); replace HO317 := am (Kd.R_below (rx ((Kd.R_mono (Kd.R_mono (Kd.R_far (p := ⟨gb307, 5, none⟩) (Kd.R_far (p := ⟨gb307, 4, none⟩) (Kd.R_far (p := ⟨gb307, 3, none⟩) (Kd.R_far (p := ⟨gb307, 2, none⟩) (Kd.R_far (p := ⟨gb307, 1, none⟩) (Kd.R_far (p := ⟨gb307, 0, none⟩) (Kd.R_far (p := ⟨gb319, 5, none⟩) (Kd.R_far (p := ⟨gb319, 4, none⟩) (Kd.R_far (p := ⟨gb319, 3, none⟩) (Kd.R_far (p := ⟨gb319, 2, none⟩) (Kd.R_far (p := ⟨gb319, 1, none⟩) (Kd.R_far (p := ⟨gb319, 0, none⟩) (Kd.R_types (Kd.R_types HO317.out BK319.out (by decide)) BK307.out (by decide)) (fun _ hk => hk.1.2) (.int .i64 t310)) (fun _ hk => hk.1.2) (.int .i64 t311)) (fun _ hk => hk.1.2) (.int .i64 t312)) (fun _ hk => hk.1.2) (.int .i64 t313)) (fun _ hk => hk.1.2) (.int .i64 t314)) (fun _ hk => hk.1.2) (.slice Ao43 t315.length co43)) (fun _ hk => hk.2) (.int .i64 t310)) (fun _ hk => hk.2) (.int .i64 t311)) (fun _ hk => hk.2) (.int .i64 t312)) (fun _ hk => hk.2) (.int .i64 t313)) (fun _ hk => hk.2) (.int .i64 t314)) (fun _ hk => hk.2) (.slice Ao43 t315.length co43)) (fun _ h_ => h_.1)) (fun _ h_ => h_.1)))) hb); replace BK297 := zh2 hb BK297 NB297_307 NB297_319; replace BK307 := am (blk_below (g := gb307) (o := .cells #[.int .i64 t310, .int .i64 t311, .int .i64 t312, .int .i64 t313, .int .i64 t314, .slice Ao43 t315.length co43] 26 (0, 0)) (by (with_reducible repeat (first | refine blk_drewN ?_ _ | refine blk_drew ?_ | refine blk_alloc ?_ _)); refine blk_put (cs := #[.int .i64 t310, .int .i64 t311, .int .i64 t312, .int .i64 t313, .int .i64 t314, .slice Ao37 x308005_3.length co37]) ?_ 5 _ rfl; (with_reducible repeat (first | refine blk_drewN ?_ _ | refine blk_drew ?_ | refine blk_alloc ?_ _)); refine blk_put (cs := #[.int .i64 t310, .int .i64 t311, .int .i64 t312, .int .i64 t313, .int .i64 x308004_3, .slice Ao37 x308005_3.length co37]) ?_ 4 _ rfl; (with_reducible repeat (first | refine blk_drewN ?_ _ | refine blk_drew ?_ | refine blk_alloc ?_ _)); refine blk_put (cs := #[.int .i64 t310, .int .i64 t311, .int .i64 t312, .int .i64 x308003_3, .int .i64 x308004_3, .slice Ao37 x308005_3.length co37]) ?_ 3 _ rfl; (with_reducible repeat (first | refine blk_drewN ?_ _ | refine blk_drew ?_ | refine blk_alloc ?_ _)); refine blk_put (cs := #[.int .i64 t310, .int .i64 t311, .int .i64 x308002_3, .int .i64 x308003_3, .int .i64 x308004_3, .slice Ao37 x308005_3.length co37]) ?_ 2 _ rfl; (with_reducible repeat (first | refine blk_drewN ?_ _ | refine blk_drew ?_ | refine blk_alloc ?_ _)); refine blk_put (cs := #[.int .i64 t310, .int .i64 x308001_3, .int .i64 x308002_3, .int .i64 x308003_3, .int .i64 x308004_3, .slice Ao37 x308005_3.length co37]) ?_ 1 _ rfl; (with_reducible repeat (first | refine blk_drewN ?_ _ | refine blk_drew ?_ | refine blk_alloc ?_ _)); refine blk_put (cs := #[.int .i64 x308000_3, .int .i64 x308001_3, .int .i64 x308002_3, .int .i64 x308003_3, .int .i64 x308004_3, .slice Ao37 x308005_3.length co37]) ?_ 0 _ rfl; (with_reducible repeat (first | refine blk_drewN ?_ _ | refine blk_drew ?_ | refine blk_alloc ?_ _)); refine blk_far ?_ NB307_319.out _; (with_reducible repeat (first | refine blk_drewN ?_ _ | refine blk_drew ?_ | refine blk_alloc ?_ _)); refine blk_far ?_ NB307_319.out _; (with_reducible repeat (first | refine blk_drewN ?_ _ | refine blk_drew ?_ | refine blk_alloc ?_ _)); refine blk_far ?_ NB307_319.out _; (with_reducible repeat (first | refine blk_drewN ?_ _ | refine blk_drew ?_ | refine blk_alloc ?_ _)); refine blk_far ?_ NB307_319.out _; (with_reducible repeat (first | refine blk_drewN ?_ _ | refine blk_drew ?_ | refine blk_alloc ?_ _)); refine blk_far ?_ NB307_319.out _; (with_reducible repeat (first | refine blk_drewN ?_ _ | refine blk_drew ?_ | refine blk_alloc ?_ _)); refine blk_far ?_ NB307_319.out _; (with_reducible repeat (first | refine blk_drewN ?_ _ | refine blk_drew ?_ | refine blk_alloc ?_ _)); exact BK307.out) hb); replace BK319 := am (blk_below (g := gb319) (o := .cells #[.int .i64 t310, .int .i64 t311, .int .i64 t312, .int .i64 t313, .int .i64 t314, .slice Ao43 t315.length co43] 26 (0, 0)) (by (with_reducible repeat (first | refine blk_drewN ?_ _ | refine blk_drew ?_ | refine blk_alloc ?_ _)); refine blk_far ?_ NB319_307.out _; (with_reducible repeat (first | refine blk_drewN ?_ _ | refine blk_drew ?_ | refine blk_alloc ?_ _)); refine blk_far ?_ NB319_307.out _; (with_reducible repeat (first | refine blk_drewN ?_ _ | refine blk_drew ?_ | refine blk_alloc ?_ _)); refine blk_far ?_ NB319_307.out _; (with_reducible repeat (first | refine blk_drewN ?_ _ | refine blk_drew ?_ | refine blk_alloc ?_ _)); refine blk_far ?_ NB319_307.out _; (with_reducible repeat (first | refine blk_drewN ?_ _ | refine blk_drew ?_ | refine blk_alloc ?_ _)); refine blk_far ?_ NB319_307.out _; (with_reducible repeat (first | refine blk_drewN ?_ _ | refine blk_drew ?_ | refine blk_alloc ?_ _)); refine blk_far ?_ NB319_307.out _; (with_reducible repeat (first | refine blk_drewN ?_ _ | refine blk_drew ?_ | refine blk_alloc ?_ _)); refine blk_put (cs := #[.int .i64 t310, .int .i64 t311, .int .i64 t312, .int .i64 t313, .int .i64 t314, .slice none 0 0]) ?_ 5 _ rfl; (with_reducible repeat (first | refine blk_drewN ?_ _ | refine blk_drew ?_ | refine blk_alloc ?_ _)); refine blk_put (cs := #[.int .i64 t310, .int .i64 t311, .int .i64 t312, .int .i64 t313, .int .i64 0, .slice none 0 0]) ?_ 4 _ rfl; (with_reducible repeat (first | refine blk_drewN ?_ _ | refine blk_drew ?_ | refine blk_alloc ?_ _)); refine blk_put (cs := #[.int .i64 t310, .int .i64 t311, .int .i64 t312, .int .i64 0, .int .i64 0, .slice none 0 0]) ?_ 3 _ rfl; (with_reducible repeat (first | refine blk_drewN ?_ _ | refine blk_drew ?_ | refine blk_alloc ?_ _)); refine blk_put (cs := #[.int .i64 t310, .int .i64 t311, .int .i64 0, .int .i64 0, .int .i64 0, .slice none 0 0]) ?_ 2 _ rfl; (with_reducible repeat (first | refine blk_drewN ?_ _ | refine blk_drew ?_ | refine blk_alloc ?_ _)); refine blk_put (cs := #[.int .i64 t310, .int .i64 0, .int .i64 0, .int .i64 0, .int .i64 0, .slice none 0 0]) ?_ 1 _ rfl; (with_reducible repeat (first | refine blk_drewN ?_ _ | refine blk_drew ?_ | refine blk_alloc ?_ _)); refine blk_put (cs := #[.int .i64 0, .int .i64 0, .int .i64 0, .int .i64 0, .int .i64 0, .slice none 0 0]) ?_ 0 _ rfl; (with_reducible repeat (first | refine blk_drewN ?_ _ | refine blk_drew ?_ | refine blk_alloc ?_ _)); exact BK319.out) hb); replace HB := zs3 hb HB GE297 GE307 GE319; clear hb))
               go_roundg k3
               case measure => have := HJ3.out; have := HJ13.out; have := HK3.out; omega
               case rel => exact ⟨(wrap64 (x13_3 + (t320.size : Int))), (wrap64 (x58_3 + 1)), (t310), (t311), (t312), (t313), (t314), (t315), (.slice Ao43 t315.length co43), (by first | rfl | (simp; done) | (simp [*]; done)), (by first | rfl | (simp; done) | (simp [*]; done)), H', ⟨by have := HJ3.out; have := HJ13.out; have := HK3.out; omega⟩, ⟨rx HO_56.out⟩, ⟨rx (Kd.R_mono HO317.out (fun _ hk => trivial))⟩, ⟨kx BK297.out⟩, ⟨kx BK307.out⟩, ⟨zb3 HB.out GE297.out GE307.out GE319.out⟩⟩
              ·replace c33 := Bool.eq_false_iff.mpr c33
               subst c33
               have H1 : (some (x308000_3, x308001_3, x308002_3, x308003_3, x308004_3, x308005_3, x13_3, true)) = some (r1, r2, r3, r4, r5, r6, r7, r8) := by rw [if_neg (show ¬ (false = true) by decide)] at H; exact H
               clear H
               have H := H1
               clear H1
               simp only [Option.some.injEq, Prod.mk.injEq] at H
               obtain ⟨rfl, rfl, rfl, rfl, rfl, rfl, rfl, rfl⟩ := H
               have p309 : 0 ≤ (x58_3 : Int) := of_decide_eq_true (by first | (with_reducible assumption) | assumption)
               have q309 : x58_3 < (t298.length : Int) := of_decide_eq_true (by first | (with_reducible assumption) | assumption)
               obtain ⟨ad309, e309, hx309_0⟩ := Kd.at_string (Kd.R_reads' HO_56.out).2.2 x58_3 p309 q309
               obtain rfl : ad303 = ad309 := (by injection e309)
               replace p309 := eq_true p309
               replace q309 := eq_true q309
               obtain ⟨hnb46, hnc46⟩ := zn2 NB307_297
               obtain ⟨hcz47_0, hcz47_1, hcz47_2, hcz47_3, hcz47_4, hcz47_5, hfz47_0, hfz47_1, hfz47_2, hfz47_3, hfz47_4, hfz47_5⟩ := zc6 BK307.out
               obtain ⟨Ao48, co48, eo48⟩ := Kd.R_slice HO_308005.out
               subst eo48
               go_wp2_with (first | ((with_reducible refine gate_callee (f := 19) rfl ?_); refine goesL_ (some 68) rfl rfl Try.func19 (by kernel_rfl) rfl #[.agg #[.int .i64 x308000_3, .int .i64 x308001_3, .int .i64 x308002_3, .int .i64 x308003_3, .int .i64 x308004_3, .slice Ao48 x308005_3.length co48], .string (rdOf ByteArray.empty t298 x58_3)] rfl zr ?_; (with_reducible refine (impl_told.calls k3 x308000_3 x308001_3 x308002_3 x308003_3 x308004_3 _ x308005_3 (rdOf ByteArray.empty t298 x58_3) t310 t311 t312 t313 t314 t315 false w _ ?side1 ?side2 A32.out).mono ?_); (case side1 => exact (zb2 HB.out GE297.out GE307.out)); (case side2 => exact (rx HO_308005.out)); rintro e w49 ⟨v316, rfl, ho0, hb⟩; refine ⟨_, rfl, ?_⟩; have HO317 := am (ho0); replace HO_56 := am (Kd.R_below (rx HO_56.out) hb); replace HO_308005 := am (Kd.R_below (rx HO_308005.out) hb); replace BK297 := zk hb BK297; replace BK307 := zk hb BK307; replace HB := zs2 hb HB GE297 GE307; clear hb ho0) | ((with_reducible refine gate_dst (N := 16) rfl ?_); (try (refine gate_guard (by rfl) ?_; dsimp only)); refine box_event rfl (N := 16) rfl (cs := #[.int .i64 0, .int .i64 0, .int .i64 0, .int .i64 0, .int .i64 0, .slice none 0 0]) (t := 26) zrun ?_; intro gb319 hg w50 hbox hb; have BK319 := am (hbox); have GW319 := zge hg (zb2 HB.out GE297.out GE307.out); have GE319 := zge hg (zb2 HB.out GE297.out GE307.out); obtain ⟨NB297_319, NB319_297⟩ := zne hg BK297; obtain ⟨NB307_319, NB319_307⟩ := zne hg BK307; replace HO_56 := am (Kd.R_below (rx HO_56.out) hb); replace HO_308005 := am (Kd.R_below (rx HO_308005.out) hb); replace HO317 := am (Kd.R_below (rx HO317.out) hb); replace BK297 := zk hb BK297; replace BK307 := zk hb BK307; replace HB := zs2 hb HB GE297 GE307; clear hb hbox hg; obtain ⟨hnb51, hnc51⟩ := zn2 NB319_297; obtain ⟨hnb52, hnc52⟩ := zn2 NB319_307; obtain ⟨hcz53_0, hcz53_1, hcz53_2, hcz53_3, hcz53_4, hcz53_5, hfz53_0, hfz53_1, hfz53_2, hfz53_3, hfz53_4, hfz53_5⟩ := zc6 BK319.out; obtain ⟨Ao54, co54, eo54⟩ := Kd.R_slice HO317.out; subst eo54; obtain ⟨hcz55_0, hcz55_1, hcz55_2, hcz55_3, hcz55_4, hcz55_5, hfz55_0, hfz55_1, hfz55_2, hfz55_3, hfz55_4, hfz55_5⟩ := zc6 BK307.out; obtain ⟨hcz56_0, hcz56_1, hcz56_2, hcz56_3, hcz56_4, hcz56_5, hfz56_0, hfz56_1, hfz56_2, hfz56_3, hfz56_4, hfz56_5⟩ := zc6 BK297.out))
               refine bodyPost_ret (results_ctt rfl _ _ gb297 26 #[.int .i64 x308000_3, .int .i64 x308001_3, .int .i64 x308002_3, .int .i64 x308003_3, .int .i64 x308004_3, .slice Ao48 x308005_3.length co48] (0, 0) _ rfl (by (with_reducible repeat (first | refine blk_drewN ?_ _ | refine blk_drew ?_ | refine blk_alloc ?_ _)); refine blk_put (cs := #[.int .i64 x308000_3, .int .i64 x308001_3, .int .i64 x308002_3, .int .i64 x308003_3, .int .i64 x308004_3, .slice none 0 0]) ?_ 5 _ rfl; (with_reducible repeat (first | refine blk_drewN ?_ _ | refine blk_drew ?_ | refine blk_alloc ?_ _)); refine blk_put (cs := #[.int .i64 x308000_3, .int .i64 x308001_3, .int .i64 x308002_3, .int .i64 x308003_3, .int .i64 0, .slice none 0 0]) ?_ 4 _ rfl; (with_reducible repeat (first | refine blk_drewN ?_ _ | refine blk_drew ?_ | refine blk_alloc ?_ _)); refine blk_put (cs := #[.int .i64 x308000_3, .int .i64 x308001_3, .int .i64 x308002_3, .int .i64 0, .int .i64 0, .slice none 0 0]) ?_ 3 _ rfl; (with_reducible repeat (first | refine blk_drewN ?_ _ | refine blk_drew ?_ | refine blk_alloc ?_ _)); refine blk_put (cs := #[.int .i64 x308000_3, .int .i64 x308001_3, .int .i64 0, .int .i64 0, .int .i64 0, .slice none 0 0]) ?_ 2 _ rfl; (with_reducible repeat (first | refine blk_drewN ?_ _ | refine blk_drew ?_ | refine blk_alloc ?_ _)); refine blk_put (cs := #[.int .i64 x308000_3, .int .i64 0, .int .i64 0, .int .i64 0, .int .i64 0, .slice none 0 0]) ?_ 1 _ rfl; (with_reducible repeat (first | refine blk_drewN ?_ _ | refine blk_drew ?_ | refine blk_alloc ?_ _)); refine blk_put (cs := #[.int .i64 0, .int .i64 0, .int .i64 0, .int .i64 0, .int .i64 0, .slice none 0 0]) ?_ 0 _ rfl; (with_reducible repeat (first | refine blk_drewN ?_ _ | refine blk_drew ?_ | refine blk_alloc ?_ _)); refine blk_far ?_ NB297_319.out _; (with_reducible repeat (first | refine blk_drewN ?_ _ | refine blk_drew ?_ | refine blk_alloc ?_ _)); refine blk_far ?_ NB297_319.out _; (with_reducible repeat (first | refine blk_drewN ?_ _ | refine blk_drew ?_ | refine blk_alloc ?_ _)); refine blk_far ?_ NB297_319.out _; (with_reducible repeat (first | refine blk_drewN ?_ _ | refine blk_drew ?_ | refine blk_alloc ?_ _)); refine blk_far ?_ NB297_319.out _; (with_reducible repeat (first | refine blk_drewN ?_ _ | refine blk_drew ?_ | refine blk_alloc ?_ _)); refine blk_far ?_ NB297_319.out _; (with_reducible repeat (first | refine blk_drewN ?_ _ | refine blk_drew ?_ | refine blk_alloc ?_ _)); refine blk_far ?_ NB297_319.out _; (with_reducible repeat (first | refine blk_drewN ?_ _ | refine blk_drew ?_ | refine blk_alloc ?_ _)); exact BK297.out) Try.underlying26 rfl (by kernel_rfl)) rfl ?_
               exact ⟨_, by first | rfl | (simp [errW_none, errW_some] <;> rfl) | (simp [*, errW_none, errW_some] <;> rfl), rx (Kd.R_mono (Kd.R_far (p := ⟨gb297, 5, none⟩) (Kd.R_far (p := ⟨gb297, 4, none⟩) (Kd.R_far (p := ⟨gb297, 3, none⟩) (Kd.R_far (p := ⟨gb297, 2, none⟩) (Kd.R_far (p := ⟨gb297, 1, none⟩) (Kd.R_far (p := ⟨gb297, 0, none⟩) (Kd.R_far (p := ⟨gb319, 5, none⟩) (Kd.R_far (p := ⟨gb319, 4, none⟩) (Kd.R_far (p := ⟨gb319, 3, none⟩) (Kd.R_far (p := ⟨gb319, 2, none⟩) (Kd.R_far (p := ⟨gb319, 1, none⟩) (Kd.R_far (p := ⟨gb319, 0, none⟩) (Kd.R_types (Kd.R_types HO_308005.out BK319.out (by decide)) BK297.out (by decide)) (fun _ hk => hk.1.2) (.int .i64 t310)) (fun _ hk => hk.1.2) (.int .i64 t311)) (fun _ hk => hk.1.2) (.int .i64 t312)) (fun _ hk => hk.1.2) (.int .i64 t313)) (fun _ hk => hk.1.2) (.int .i64 t314)) (fun _ hk => hk.1.2) (.slice Ao54 t315.length co54)) (fun _ hk => hk.2) (.int .i64 x308000_3)) (fun _ hk => hk.2) (.int .i64 x308001_3)) (fun _ hk => hk.2) (.int .i64 x308002_3)) (fun _ hk => hk.2) (.int .i64 x308003_3)) (fun _ hk => hk.2) (.int .i64 x308004_3)) (fun _ hk => hk.2) (.slice Ao48 x308005_3.length co48)) (fun _ hk => trivial)), zb3 HB.out GE297.out GE307.out GE319.out⟩
             ·rw [if_neg c31] at H
              have c31b0 : decide (0 < x58_3) = false := decide_eq_false c31
              clear c31
              replace H := Option.bind_eq_some_iff.mp H
              obtain ⟨⟨t322, t323⟩, A570, H⟩ := H
              try dsimp only at H
              have A57 := Aside0.mk A570
              clear A570
              have H' := Aside0.mk H
              clear H
              have p309 : 0 ≤ (x58_3 : Int) := of_decide_eq_true (by first | (with_reducible assumption) | assumption)
              have q309 : x58_3 < (t298.length : Int) := of_decide_eq_true (by first | (with_reducible assumption) | assumption)
              obtain ⟨ad309, e309, hx309_0⟩ := Kd.at_string (Kd.R_reads' HO_56.out).2.2 x58_3 p309 q309
              obtain rfl : ad303 = ad309 := (by injection e309)
              replace p309 := eq_true p309
              replace q309 := eq_true q309
              go_wp2_with (first | ((with_reducible refine gate_callee (f := 20) rfl ?_); refine goesL_ (some 76) rfl rfl Try.func20 (by kernel_rfl) rfl #[.string (rdOf ByteArray.empty t298 x58_3)] rfl zr ?_; (with_reducible refine (impl_Frame.calls k3 (rdOf ByteArray.empty t298 x58_3) t322 t323 _ A57.out).mono ?_); rintro e w58 ⟨rfl, hb⟩; refine ⟨_, rfl, ?_⟩; replace HO_56 := am (Kd.R_below (rx HO_56.out) hb); replace HO_308005 := am (Kd.R_below (rx HO_308005.out) hb); replace BK297 := zk hb BK297; replace BK307 := zk hb BK307; replace HB := zs2 hb HB GE297 GE307; clear hb))
              go_roundg k3
              case measure => have := HJ3.out; have := HJ13.out; have := HK3.out; omega
              case rel => exact ⟨(wrap64 (x13_3 + (t322.size : Int))), (wrap64 (x58_3 + 1)), (x308000_3), (x308001_3), (x308002_3), (x308003_3), (x308004_3), (x308005_3), (u308005), (by first | rfl | (simp; done) | (simp [*]; done)), (by first | rfl | (simp; done) | (simp [*]; done)), H', ⟨by have := HJ3.out; have := HJ13.out; have := HK3.out; omega⟩, ⟨rx HO_56.out⟩, ⟨rx HO_308005.out⟩, ⟨kx BK297.out⟩, ⟨kx BK307.out⟩, ⟨zb2 HB.out GE297.out GE307.out⟩⟩
            ·rw [if_neg c30] at H
             exact absurd H (by simp)
           ·rw [if_neg c29] at H
            exact absurd H (by simp)
          ·rw [if_neg c28] at H
           have c28b0 : decide (x58_3 < (t298.length : Int)) = false := decide_eq_false c28
           have c28b1 : decide ((t298.length : Int) ≤ x58_3) = true := decide_eq_true (by omega)
           clear c28
           simp only [Option.some.injEq, Prod.mk.injEq] at H
           obtain ⟨rfl, rfl, rfl, rfl, rfl, rfl, rfl, rfl⟩ := H
           obtain ⟨hnb59, hnc59⟩ := zn2 NB307_297
           obtain ⟨hcz60_0, hcz60_1, hcz60_2, hcz60_3, hcz60_4, hcz60_5, hfz60_0, hfz60_1, hfz60_2, hfz60_3, hfz60_4, hfz60_5⟩ := zc6 BK307.out
           obtain ⟨hcz61_0, hcz61_1, hcz61_2, hcz61_3, hcz61_4, hcz61_5, hfz61_0, hfz61_1, hfz61_2, hfz61_3, hfz61_4, hfz61_5⟩ := zc6 BK297.out
           obtain ⟨Ao62, co62, eo62⟩ := Kd.R_slice HO_308005.out
           subst eo62
           go_wp2
           refine bodyPost_ret (results_ctt rfl _ _ gb297 26 #[.int .i64 x308000_3, .int .i64 x308001_3, .int .i64 x308002_3, .int .i64 x308003_3, .int .i64 x308004_3, .slice Ao62 x308005_3.length co62] (0, 0) _ rfl (by (with_reducible repeat (first | refine blk_drewN ?_ _ | refine blk_drew ?_ | refine blk_alloc ?_ _)); refine blk_put (cs := #[.int .i64 x308000_3, .int .i64 x308001_3, .int .i64 x308002_3, .int .i64 x308003_3, .int .i64 x308004_3, .slice none 0 0]) ?_ 5 _ rfl; (with_reducible repeat (first | refine blk_drewN ?_ _ | refine blk_drew ?_ | refine blk_alloc ?_ _)); refine blk_put (cs := #[.int .i64 x308000_3, .int .i64 x308001_3, .int .i64 x308002_3, .int .i64 x308003_3, .int .i64 0, .slice none 0 0]) ?_ 4 _ rfl; (with_reducible repeat (first | refine blk_drewN ?_ _ | refine blk_drew ?_ | refine blk_alloc ?_ _)); refine blk_put (cs := #[.int .i64 x308000_3, .int .i64 x308001_3, .int .i64 x308002_3, .int .i64 0, .int .i64 0, .slice none 0 0]) ?_ 3 _ rfl; (with_reducible repeat (first | refine blk_drewN ?_ _ | refine blk_drew ?_ | refine blk_alloc ?_ _)); refine blk_put (cs := #[.int .i64 x308000_3, .int .i64 x308001_3, .int .i64 0, .int .i64 0, .int .i64 0, .slice none 0 0]) ?_ 2 _ rfl; (with_reducible repeat (first | refine blk_drewN ?_ _ | refine blk_drew ?_ | refine blk_alloc ?_ _)); refine blk_put (cs := #[.int .i64 x308000_3, .int .i64 0, .int .i64 0, .int .i64 0, .int .i64 0, .slice none 0 0]) ?_ 1 _ rfl; (with_reducible repeat (first | refine blk_drewN ?_ _ | refine blk_drew ?_ | refine blk_alloc ?_ _)); refine blk_put (cs := #[.int .i64 0, .int .i64 0, .int .i64 0, .int .i64 0, .int .i64 0, .slice none 0 0]) ?_ 0 _ rfl; (with_reducible repeat (first | refine blk_drewN ?_ _ | refine blk_drew ?_ | refine blk_alloc ?_ _)); exact BK297.out) Try.underlying26 rfl (by kernel_rfl)) rfl ?_
           exact ⟨_, by first | rfl | (simp [errW_none, errW_some] <;> rfl) | (simp [*, errW_none, errW_some] <;> rfl), rx (Kd.R_mono (Kd.R_far (p := ⟨gb297, 5, none⟩) (Kd.R_far (p := ⟨gb297, 4, none⟩) (Kd.R_far (p := ⟨gb297, 3, none⟩) (Kd.R_far (p := ⟨gb297, 2, none⟩) (Kd.R_far (p := ⟨gb297, 1, none⟩) (Kd.R_far (p := ⟨gb297, 0, none⟩) (Kd.R_types HO_308005.out BK297.out (by decide)) (fun _ hk => hk.2) (.int .i64 x308000_3)) (fun _ hk => hk.2) (.int .i64 x308001_3)) (fun _ hk => hk.2) (.int .i64 x308002_3)) (fun _ hk => hk.2) (.int .i64 x308003_3)) (fun _ hk => hk.2) (.int .i64 x308004_3)) (fun _ hk => hk.2) (.slice Ao62 x308005_3.length co62)) (fun _ hk => trivial)), zb2 HB.out GE297.out GE307.out⟩
    ·rw [if_neg c12] at H
     exact absurd H (by simp)

/-! ### laws_eqEntry: function 57 -/
def laws_eqEntry.f (a0_0 : Int) (a0_1 : Int) (a0_2 : ByteArray) (a1_0 : Int) (a1_1 : Int) (a1_2 : ByteArray) : Option (Bool) := if a0_0 = a1_0 then (if a0_1 = a1_1 then (if a0_2.toList = a1_2.toList then (some true) else (some false)) else (some false)) else (some false)
set_option maxHeartbeats 8000000 in
set_option maxRecDepth 100000 in
theorem laws_eqEntry.calls (a0_0 : Int) (a0_1 : Int) (a0_2 : ByteArray) (a1_0 : Int) (a1_1 : Int) (a1_2 : ByteArray) (r : Bool) (w : World) (h : laws_eqEntry.f a0_0 a0_1 a0_2 a1_0 a1_1 a1_2 = some r) :
  Calls Try.prog 57 #[.agg #[.int .i64 a0_0, .int .i64 a0_1, .string a0_2], .agg #[.int .i64 a1_0, .int .i64 a1_1, .string a1_2]] w fun e w' => e = .returned (.bool r) ∧ Below w.heap.size w w' := by
 have hu56 := Try.underlying56
 have HB := Aside0.mk (Below.refl w.heap.size w)
 have H : (if a0_0 = a1_0 then (if a0_1 = a1_1 then (if a0_2.toList = a1_2.toList then (some true) else (some false)) else (some false)) else (some false)) = some r := h
 clear h
 by_cases c3 : a0_0 = a1_0
 ·rw [if_pos c3] at H
  have c3b0 : (a0_0 == a1_0) = true := beq_iff_eq.mpr c3
  have c3b1 : (a0_0 != a1_0) = false := bne_eq_false_iff_eq.mpr c3
  clear c3
  by_cases c4 : a0_1 = a1_1
  ·rw [if_pos c4] at H
   have c4b0 : (a0_1 == a1_1) = true := beq_iff_eq.mpr c4
   have c4b1 : (a0_1 != a1_1) = false := bne_eq_false_iff_eq.mpr c4
   clear c4
   by_cases c5 : a0_2.toList = a1_2.toList
   ·rw [if_pos c5] at H
    have c5b0 : (a0_2.toList == a1_2.toList) = true := beq_iff_eq.mpr c5
    have c5b1 : (a0_2.toList != a1_2.toList) = false := bne_eq_false_iff_eq.mpr c5
    clear c5
    obtain rfl := Option.some.inj H
    go_enter Try.func57, Try.ntmps57
    go_wp2_with (first | ((with_reducible refine gate_dst (N := 2) rfl ?_); refine box_event rfl (N := 2) rfl (cs := #[.int .i64 a0_0, .int .i64 a0_1, .string a0_2]) (t := 56) zrun ?_; intro gb324 hg w6 hbox hb; have BK324 := am (hbox); have GW324 := zge hg (zb0 HB.out); have GE324 := zge hg (zb0 HB.out); replace HB := zs0 hb HB; clear hb hbox hg) | ((with_reducible refine gate_dst (N := 3) rfl ?_); refine box_event rfl (N := 3) rfl (cs := #[.int .i64 a1_0, .int .i64 a1_1, .string a1_2]) (t := 56) zrun ?_; intro gb325 hg w7 hbox hb; have BK325 := am (hbox); have GW325 := zge hg (zb1 HB.out GE324.out); have GE325 := zge hg (zb1 HB.out GE324.out); obtain ⟨NB324_325, NB325_324⟩ := zne hg BK324; replace BK324 := zk hb BK324; replace HB := zs1 hb HB GE324; clear hb hbox hg; obtain ⟨hnb8, hnc8⟩ := zn2 NB324_325; obtain ⟨hcz9_0, hcz9_1, hcz9_2, hfz9_0, hfz9_1, hfz9_2⟩ := zc3 BK324.out; obtain ⟨hcz10_0, hcz10_1, hcz10_2, hfz10_0, hfz10_1, hfz10_2⟩ := zc3 BK325.out))
    go_ret
    exact ⟨by first | rfl | (simp [errW_none, errW_some] <;> rfl) | (simp [*, errW_none, errW_some] <;> rfl), zb2 HB.out GE324.out GE325.out⟩
   ·rw [if_neg c5] at H
    have c5b0 : (a0_2.toList == a1_2.toList) = false := beq_eq_false_iff_ne.mpr c5
    have c5b1 : (a0_2.toList != a1_2.toList) = true := bne_iff_ne.mpr c5
    obtain rfl := Option.some.inj H
    go_enter Try.func57, Try.ntmps57
    go_wp2_with (first | ((with_reducible refine gate_dst (N := 2) rfl ?_); refine box_event rfl (N := 2) rfl (cs := #[.int .i64 a0_0, .int .i64 a0_1, .string a0_2]) (t := 56) zrun ?_; intro gb324 hg w11 hbox hb; have BK324 := am (hbox); have GW324 := zge hg (zb0 HB.out); have GE324 := zge hg (zb0 HB.out); replace HB := zs0 hb HB; clear hb hbox hg) | ((with_reducible refine gate_dst (N := 3) rfl ?_); refine box_event rfl (N := 3) rfl (cs := #[.int .i64 a1_0, .int .i64 a1_1, .string a1_2]) (t := 56) zrun ?_; intro gb325 hg w12 hbox hb; have BK325 := am (hbox); have GW325 := zge hg (zb1 HB.out GE324.out); have GE325 := zge hg (zb1 HB.out GE324.out); obtain ⟨NB324_325, NB325_324⟩ := zne hg BK324; replace BK324 := zk hb BK324; replace HB := zs1 hb HB GE324; clear hb hbox hg; obtain ⟨hnb13, hnc13⟩ := zn2 NB324_325; obtain ⟨hcz14_0, hcz14_1, hcz14_2, hfz14_0, hfz14_1, hfz14_2⟩ := zc3 BK324.out; obtain ⟨hcz15_0, hcz15_1, hcz15_2, hfz15_0, hfz15_1, hfz15_2⟩ := zc3 BK325.out))
    go_ret
    exact ⟨by first | rfl | (simp [errW_none, errW_some] <;> rfl) | (simp [*, errW_none, errW_some] <;> rfl), zb2 HB.out GE324.out GE325.out⟩
  ·rw [if_neg c4] at H
   have c4b0 : (a0_1 == a1_1) = false := beq_eq_false_iff_ne.mpr c4
   have c4b1 : (a0_1 != a1_1) = true := bne_iff_ne.mpr c4
   obtain rfl := Option.some.inj H
   go_enter Try.func57, Try.ntmps57
   go_wp2_with (first | ((with_reducible refine gate_dst (N := 2) rfl ?_); refine box_event rfl (N := 2) rfl (cs := #[.int .i64 a0_0, .int .i64 a0_1, .string a0_2]) (t := 56) zrun ?_; intro gb324 hg w16 hbox hb; have BK324 := am (hbox); have GW324 := zge hg (zb0 HB.out); have GE324 := zge hg (zb0 HB.out); replace HB := zs0 hb HB; clear hb hbox hg) | ((with_reducible refine gate_dst (N := 3) rfl ?_); refine box_event rfl (N := 3) rfl (cs := #[.int .i64 a1_0, .int .i64 a1_1, .string a1_2]) (t := 56) zrun ?_; intro gb325 hg w17 hbox hb; have BK325 := am (hbox); have GW325 := zge hg (zb1 HB.out GE324.out); have GE325 := zge hg (zb1 HB.out GE324.out); obtain ⟨NB324_325, NB325_324⟩ := zne hg BK324; replace BK324 := zk hb BK324; replace HB := zs1 hb HB GE324; clear hb hbox hg; obtain ⟨hnb18, hnc18⟩ := zn2 NB324_325; obtain ⟨hcz19_0, hcz19_1, hcz19_2, hfz19_0, hfz19_1, hfz19_2⟩ := zc3 BK324.out; obtain ⟨hcz20_0, hcz20_1, hcz20_2, hfz20_0, hfz20_1, hfz20_2⟩ := zc3 BK325.out))
   go_ret
   exact ⟨by first | rfl | (simp [errW_none, errW_some] <;> rfl) | (simp [*, errW_none, errW_some] <;> rfl), zb2 HB.out GE324.out GE325.out⟩
 ·rw [if_neg c3] at H
  have c3b0 : (a0_0 == a1_0) = false := beq_eq_false_iff_ne.mpr c3
  have c3b1 : (a0_0 != a1_0) = true := bne_iff_ne.mpr c3
  obtain rfl := Option.some.inj H
  go_enter Try.func57, Try.ntmps57
  go_wp2_with (first | ((with_reducible refine gate_dst (N := 2) rfl ?_); refine box_event rfl (N := 2) rfl (cs := #[.int .i64 a0_0, .int .i64 a0_1, .string a0_2]) (t := 56) zrun ?_; intro gb324 hg w21 hbox hb; have BK324 := am (hbox); have GW324 := zge hg (zb0 HB.out); have GE324 := zge hg (zb0 HB.out); replace HB := zs0 hb HB; clear hb hbox hg) | ((with_reducible refine gate_dst (N := 3) rfl ?_); refine box_event rfl (N := 3) rfl (cs := #[.int .i64 a1_0, .int .i64 a1_1, .string a1_2]) (t := 56) zrun ?_; intro gb325 hg w22 hbox hb; have BK325 := am (hbox); have GW325 := zge hg (zb1 HB.out GE324.out); have GE325 := zge hg (zb1 HB.out GE324.out); obtain ⟨NB324_325, NB325_324⟩ := zne hg BK324; replace BK324 := zk hb BK324; replace HB := zs1 hb HB GE324; clear hb hbox hg; obtain ⟨hnb23, hnc23⟩ := zn2 NB324_325; obtain ⟨hcz24_0, hcz24_1, hcz24_2, hfz24_0, hfz24_1, hfz24_2⟩ := zc3 BK324.out; obtain ⟨hcz25_0, hcz25_1, hcz25_2, hfz25_0, hfz25_1, hfz25_2⟩ := zc3 BK325.out))
  go_ret
  exact ⟨by first | rfl | (simp [errW_none, errW_some] <;> rfl) | (simp [*, errW_none, errW_some] <;> rfl), zb2 HB.out GE324.out GE325.out⟩

end Go.Proofs.Ytogifkjkbfdocaa.QFnExactReadJournal
