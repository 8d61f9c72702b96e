/- Written by the kit's print.py, called by our own print2.sh with one import more; not by print.sh. -/
import Derived.Test.YtogifkjkbfdocaaGreatDoorQFnExactShedActsx0
import Derived.Test.YtogifkjkbfdocaaGreatDoorQFnExactShedActsx14
namespace Go.Proofs.YtogifkjkbfdocaaGreatDoor.QFnExactShedActs
open Go.RowKit Go.Proofs.YtogifkjkbfdocaaGreatDoorW.PrintWords Go.Proofs.YtogifkjkbfdocaaGreatDoorW.PrintLast Go.Proofs.YtogifkjkbfdocaaGreatDoorW.PrintMore
attribute [local go_sem] max2_int min2_int max_two min_two max_three min_three max_four min_four   -- for this text's walks alone
open Go.Proofs.YtogifkjkbfdocaaGreatDoor.Laid
open Go.Proofs.YtogifkjkbfdocaaGreatDoor.Short
set_option linter.unusedVariables false
set_option linter.unusedSimpArgs false

/-! ### impl_ShedActs: function 9 -/
def impl_ShedActs.l0 : Nat → List (S67) → List (S63) → Int → Int → Int → Int → List Int → ByteArray → Option ((List (S67)))
 | 0, _, _, _, _, _, _, _, _ => none
 | k + 1, x3, x18, x19, x20, x367000, x367001, x367002, x367003 => if x20 < x19 then (if 0 ≤ x20 then (if x20 < (x18.length : Int) then (if ((rd_T63 x18 x20).f0).toList = ([115, 43] : List UInt8) then (if x3.length < 2513169434916 then (impl_ShedActs.l0 k (x3 ++ [(⟨4, (rd_T63 x18 x20).f0, (⟨#[]⟩ : ByteArray), (⟨#[]⟩ : ByteArray)⟩ : S67)]) x18 x19 (wrap64 (x20 + 1)) x367000 x367001 x367002 x367003) else (none)) else ((impl_isSnap.f k ((rd_T63 x18 x20).f0) ((rd_T63 x18 x20).f1) ((rd_T63 x18 x20).f2)).bind fun t372 => (if t372 = true then ((impl_SnapName.f x367000).bind fun t373 => (if ((rd_T63 x18 x20).f0).toList = t373.toList then (impl_ShedActs.l0 k x3 x18 x19 (wrap64 (x20 + 1)) x367000 x367001 x367002 x367003) else (if x3.length < 2513169434916 then (impl_ShedActs.l0 k (x3 ++ [(⟨4, (rd_T63 x18 x20).f0, (⟨#[]⟩ : ByteArray), (⟨#[]⟩ : ByteArray)⟩ : S67)]) x18 x19 (wrap64 (x20 + 1)) x367000 x367001 x367002 x367003) else (none)))) else (impl_ShedActs.l0 k x3 x18 x19 (wrap64 (x20 + 1)) x367000 x367001 x367002 x367003)))) else (none)) else (none)) else (some x3)
def impl_ShedActs.f (k : Nat) (l0_0 : List (S63)) : Option ((List (S67))) := (some (([] : List (S67)) : List (S67))).bind fun y356 => ((impl_NewestSnap.f k l0_0).bind fun bt359 => (if bt359.2.2.2.2 = true then (impl_ShedActs.l0 k y356 l0_0 (l0_0.length : Int) 0 bt359.1 bt359.2.1 bt359.2.2.1 bt359.2.2.2.1) else (some y356)))
theorem impl_ShedActs.mono_l : ∀ k, (∀ y0 y1 y2 y3 y4 y5 y6 y7, LeO (impl_ShedActs.l0 k y0 y1 y2 y3 y4 y5 y6 y7) (impl_ShedActs.l0 (k + 1) y0 y1 y2 y3 y4 y5 y6 y7))
 | 0 => fun _ _ _ _ _ _ _ _ r h => by simp [impl_ShedActs.l0] at h
 | k + 1 => by
  have ih0 := impl_ShedActs.mono_l k
  ·intro y0 y1 y2 y3 y4 y5 y6 y7
   unfold impl_ShedActs.l0
   repeat' first
   | (with_reducible exact ih0 _ _ _ _ _ _ _ _)
   | (with_reducible exact impl_NewestSnap.mono _ _)
   | (with_reducible exact impl_isSnap.mono _ _ _ _)
   | (with_reducible exact LeO.refl _)
   | (with_reducible exact LeO.none _)
   | (with_reducible refine LeO.ite ?_ ?_)
   | (with_reducible refine LeO.bind ?_ (fun _ => ?_))
   | exact ih0 _ _ _ _ _ _ _ _
   | exact impl_NewestSnap.mono _ _
   | exact impl_isSnap.mono _ _ _ _
   | exact LeO.none _
   | refine LeO.ite ?_ ?_
   | refine LeO.bind ?_ (fun _ => ?_)
theorem impl_ShedActs.mono : ∀ a0 k, LeO (impl_ShedActs.f k a0) (impl_ShedActs.f (k + 1) a0) := by
 intro a0 k
 have ih0 := impl_ShedActs.mono_l k
 unfold impl_ShedActs.f
 repeat' first
   | (with_reducible exact ih0 _ _ _ _ _ _ _ _)
   | (with_reducible exact impl_NewestSnap.mono _ _)
   | (with_reducible exact impl_isSnap.mono _ _ _ _)
   | (with_reducible exact LeO.refl _)
   | (with_reducible exact LeO.none _)
   | (with_reducible refine LeO.ite ?_ ?_)
   | (with_reducible refine LeO.bind ?_ (fun _ => ?_))
   | exact ih0 _ _ _ _ _ _ _ _
   | exact impl_NewestSnap.mono _ _
   | exact impl_isSnap.mono _ _ _ _
   | exact LeO.none _
   | refine LeO.ite ?_ ?_
   | refine LeO.bind ?_ (fun _ => ?_)
def impl_ShedActs.T8 : Bool × List (List Nat × List Nat) := (true, [([], []), ([0], [0]), ([1], [1]), ([2], [2]), ([3], [3]), ([4, 3, 3], [3, 4]), ([5, 5, 3], [3, 5]), ([6], [6]), ([7, 6], [6, 7]), ([6], [6]), ([9, 6], [6, 9]), ([10, 6, 6], [6, 10]), ([8, 11, 6], [6, 8, 11]), ([6, 12, 3], [3, 6, 12]), ([3, 13], [3, 13])])
def impl_ShedActs.B8 : List Nat := [0, 1, 3, 7, 15, 31, 63, 127, 255, 127, 639, 1663, 4095, 8191, 16383]
theorem impl_ShedActs.tab8 : rtab .any (opsOf Tryz.f9 8) = impl_ShedActs.T8 := by kernel_rfl
theorem impl_ShedActs.bits8 : waitsOk impl_ShedActs.T8.2 impl_ShedActs.B8 = true := by kernel_rfl
set_option maxHeartbeats 8000000 in
set_option maxRecDepth 100000 in
theorem impl_ShedActs.calls (k : Nat) (A0_0 : Option Addr) (c0_0 : Nat) (l0_0 : List (S63)) (r : List (S67)) (w : World) (hr0_0 : Kd.C k63 w A0_0 l0_0.length l0_0) (hc0_0 : l0_0.length ≤ c0_0) (h : impl_ShedActs.f k l0_0 = some r) (hLW : LaidW w) :
  Calls Tryz.prog 9 #[.agg #[.slice A0_0 l0_0.length c0_0]] w fun e w' => ∃ v0_ : Value, e = .returned (v0_) ∧ Kd.R k67 67 w' w.heap.size (fun _ => True) v0_ r ∧ Below w.heap.size w w' := by
 have HLW := Aside0.mk hLW
 clear hLW
 have hu30 := Tryz.underlying30
 have hu52 := Tryz.underlying52
 have hu63 := Tryz.underlying63
 have hu67 := Tryz.underlying67
 have HR0_0 := Aside0.mk hr0_0
 have HC0_0 := Aside0.mk hc0_0
 clear hr0_0 hc0_0
 have HB := Aside0.mk (Below.refl w.heap.size w)
 have H : ((some (([] : List (S67)) : List (S67))).bind fun y356 => ((impl_NewestSnap.f k l0_0).bind fun bt359 => (if bt359.2.2.2.2 = true then (impl_ShedActs.l0 k y356 l0_0 (l0_0.length : Int) 0 bt359.1 bt359.2.1 bt359.2.2.1 bt359.2.2.2.1) else (some y356)))) = some r := h
 clear h
 obtain ⟨y356, hy356⟩ : ∃ y_ : List (S67), y_ = (([] : List (S67))) := ⟨_, rfl⟩
 replace H : ((impl_NewestSnap.f k l0_0).bind fun bt359 => (if bt359.2.2.2.2 = true then (impl_ShedActs.l0 k y356 l0_0 (l0_0.length : Int) 0 bt359.1 bt359.2.1 bt359.2.2.1 bt359.2.2.2.1) else (some y356))) = some r := by first | (rw [hy356]; with_reducible exact H) | (have H2_ := (Option.bind_some _ _).symm.trans H; rw [hy356]; with_reducible exact H2_) | (have H2_ := (Option.bind_some _ _).symm.trans H; with_reducible exact H2_) | with_reducible exact H | (rw [hy356]; exact H) | exact H
 have Ny356 := Aside0.mk hy356
 clear hy356
 replace H := Option.bind_eq_some_iff.mp H
 obtain ⟨⟨t359, t360, t361, t364, t365⟩, A20, H⟩ := H
 try dsimp only at H
 have A2 := Aside0.mk A20
 clear A20
 by_cases c3 : t365 = true
 ·subst c3
  have H1 : (impl_ShedActs.l0 k y356 l0_0 (l0_0.length : Int) 0 t359 t360 t361 t364) = some r := by rw [if_pos rfl] at H; exact H
  clear H
  have H := H1
  clear H1
  have H' := Aside0.mk H
  clear H
  go_enter Tryz.func9, Tryz.ntmps9
  go_wp2_with (first | ((with_reducible refine gate_dst (N := 1) rfl ?_); refine box_event rfl (N := 1) rfl (cs := #[.slice A0_0 l0_0.length c0_0]) (t := 30) zrun ?_; intro gb355 hg w4 hbox hb; have BK355 := am (hbox); have GW355 := zge hg (zb0 HB.out); have GE355 := zge hg (zb0 HB.out); replace HB := zs0 hb HB; clear hb hbox hg) | ((with_reducible refine gate_dst (N := 8) rfl ?_); refine Kd.R_lit k67 _ 67 ?hg (N := 8) ?hd (xs := ([] : List (S67))) (inner := []) (ok := fun _ => True) (okp := fun _ => True) ?hr ?hp (fun _ hk => hk) trivial (Below.refl _ _) (Nat.le_refl _) (by simp) ?_; (case hd => rfl); (case hg => rfl); (case hr => first | (go_simp; done) | (go_simp; rfl)); (case hp => exact (Reps.none _ _)); intro v357 w5 ho6 hb hg_ hnew_; clear hg_ hnew_; (first | rw [← Ny356.out] at ho6 | (simp only [Int.reduceToNat] at ho6; rw [← Ny356.out] at ho6)); have HO358 := am (Kd.R_lower ho6 (below_size (zb1 HB.out GE355.out))); replace BK355 := zk hb BK355; replace HB := zs1 hb HB GE355; clear hb ho6; obtain ⟨hcz7_0, hfz7_0⟩ := zc1 BK355.out) | ((with_reducible refine gate_callee (f := 31) rfl ?_); refine goesL_ (some 11) rfl rfl Tryz.func31 (by kernel_rfl) rfl #[.agg #[.slice A0_0 l0_0.length c0_0]] rfl zr ?_; (with_reducible refine (impl_NewestSnap.calls k _ _ l0_0 t359 t360 t361 t364 true _ ?side1 ?side2 A2.out ?laid).mono ?_); (case laid => exact LaidW.later HLW.out (zb1 HB.out GE355.out)); (case side1 => repeat (first | exact (Kd.C_below HR0_0.out HB.out) | (with_reducible refine Kd.C_alloc ?_ _) | (with_reducible refine Kd.C_drewN ?_ _) | (with_reducible refine Kd.C_drew ?_))); (case side2 => exact HC0_0.out); rintro e w8 ⟨v362, rfl, ho0, hb⟩; refine ⟨_, rfl, ?_⟩; have HO363 := am (Kd.R_lower ho0 (below_size (zb1 HB.out GE355.out))); replace HO358 := am (Kd.R_below (rx HO358.out) hb); replace BK355 := zk hb BK355; replace HB := zs1 hb HB GE355; clear hb ho0) | ((with_reducible refine gate_dst (N := 4) rfl ?_); refine box_event rfl (N := 4) rfl (cs := #[.int .i64 0, .int .i64 0, .slice none 0 0, .string (⟨#[]⟩ : ByteArray)]) (t := 52) zrun ?_; intro gb366 hg w9 hbox hb; have BK366 := am (hbox); have GW366 := zge hg (zb1 HB.out GE355.out); have GE366 := zge hg (zb1 HB.out GE355.out); obtain ⟨NB355_366, NB366_355⟩ := zne hg BK355; replace HO358 := am (Kd.R_below (rx HO358.out) hb); replace HO363 := am (Kd.R_below (rx HO363.out) hb); replace BK355 := zk hb BK355; replace HB := zs1 hb HB GE355; clear hb hbox hg; obtain ⟨hnb10, hnc10⟩ := zn2 NB366_355; obtain ⟨hcz11_0, hcz11_1, hcz11_2, hcz11_3, hfz11_0, hfz11_1, hfz11_2, hfz11_3⟩ := zc4 BK366.out; obtain ⟨Ao12, co12, eo12⟩ := Kd.R_slice HO363.out; subst eo12; obtain ⟨hcz13_0, hfz13_0⟩ := zc1 BK355.out))
  go_loopg [3, 20] k (fun kq v3 v20 w' => ∃ (x3_1 : List (S67)) (x20_1 : Int), v20 = .int .i64 x20_1 ∧ Aside0 (impl_ShedActs.l0 kq x3_1 l0_0 (l0_0.length : Int) x20_1 t359 t360 t361 t364 = some r) ∧ Aside0 (kq ≤ k) ∧ Aside0 (Kd.R k67 67 w' w.heap.size (fun _ => True) v3 x3_1) ∧ Aside0 (Kd.R (Kd.int .i64) 3 w' w.heap.size (fun _ => True) (.slice Ao12 t361.length co12) t361) ∧ Aside0 (w'.heap[gb355]? = some (.cells #[(.slice A0_0 l0_0.length c0_0)] 30 (0, 0))) ∧ Aside0 (w'.heap[gb366]? = some (.cells #[.int .i64 t359, .int .i64 t360, (.slice Ao12 t361.length co12), .string t364] 52 (0, 0))) ∧ Aside0 (Below w.heap.size w w'))
  case atStart => exact ⟨(y356), (0), (by first | rfl | (simp; done) | (simp [*]; done)), H', ⟨Nat.le_refl _⟩, ⟨rx (Kd.R_mono (Kd.R_far (p := ⟨gb366, 3, none⟩) (Kd.R_far (p := ⟨gb366, 2, none⟩) (Kd.R_far (p := ⟨gb366, 1, none⟩) (Kd.R_far (p := ⟨gb366, 0, none⟩) (Kd.R_types HO358.out BK366.out (by decide)) (fun _ hk => hk.2) (.int .i64 t359)) (fun _ hk => hk.2) (.int .i64 t360)) (fun _ hk => hk.2) (.slice Ao12 t361.length co12)) (fun _ hk => hk.2) (.string t364)) (fun _ hk => trivial))⟩, ⟨rx (Kd.R_mono (Kd.R_far (p := ⟨gb366, 3, none⟩) (Kd.R_far (p := ⟨gb366, 2, none⟩) (Kd.R_far (p := ⟨gb366, 1, none⟩) (Kd.R_far (p := ⟨gb366, 0, none⟩) (Kd.R_types HO363.out BK366.out (by decide)) (fun _ hk => hk.2) (.int .i64 t359)) (fun _ hk => hk.2) (.int .i64 t360)) (fun _ hk => hk.2) (.slice Ao12 t361.length co12)) (fun _ hk => hk.2) (.string t364)) (fun _ hk => trivial))⟩, ⟨zf1 BK355.out NB355_366.out⟩, ⟨by (with_reducible repeat (first | refine blk_drewN ?_ _ | refine blk_drew ?_ | refine blk_alloc ?_ _)); refine blk_put (cs := #[.int .i64 t359, .int .i64 t360, .slice Ao12 t361.length co12, .string (⟨#[]⟩ : ByteArray)]) ?_ 3 _ rfl; (with_reducible repeat (first | refine blk_drewN ?_ _ | refine blk_drew ?_ | refine blk_alloc ?_ _)); refine blk_put (cs := #[.int .i64 t359, .int .i64 t360, .slice none 0 0, .string (⟨#[]⟩ : ByteArray)]) ?_ 2 _ rfl; (with_reducible repeat (first | refine blk_drewN ?_ _ | refine blk_drew ?_ | refine blk_alloc ?_ _)); refine blk_put (cs := #[.int .i64 t359, .int .i64 0, .slice none 0 0, .string (⟨#[]⟩ : ByteArray)]) ?_ 1 _ rfl; (with_reducible repeat (first | refine blk_drewN ?_ _ | refine blk_drew ?_ | refine blk_alloc ?_ _)); refine blk_put (cs := #[.int .i64 0, .int .i64 0, .slice none 0 0, .string (⟨#[]⟩ : ByteArray)]) ?_ 0 _ rfl; (with_reducible repeat (first | refine blk_drewN ?_ _ | refine blk_drew ?_ | refine blk_alloc ?_ _)); exact BK366.out⟩, ⟨zb2 HB.out GE355.out GE366.out⟩⟩
  case round =>
   clear H'
   obtain ⟨x3_1, x20_1, rfl, HA, HK1, HO_3, HO_367002, BK355, BK366, HB⟩ := hrel
   cases gk with
   | zero => exact absurd HA.out (by simp [impl_ShedActs.l0])
   | succ k1 =>
    have H := HA.out
    clear HA
    simp only [impl_ShedActs.l0] at H
    by_cases c14 : x20_1 < (l0_0.length : Int)
    ·rw [if_pos c14] at H
     have c14b0 : decide (x20_1 < (l0_0.length : Int)) = true := decide_eq_true c14
     have c14b1 : decide ((l0_0.length : Int) ≤ x20_1) = false := decide_eq_false (by omega)
     clear c14
     by_cases c15 : 0 ≤ x20_1
     ·rw [if_pos c15] at H
      have c15b0 : decide (0 ≤ x20_1) = true := decide_eq_true c15
      clear c15
      by_cases c16 : x20_1 < (l0_0.length : Int)
      ·rw [if_pos c16] at H
       have c16b0 : decide (x20_1 < (l0_0.length : Int)) = true := decide_eq_true c16
       have c16b1 : decide ((l0_0.length : Int) ≤ x20_1) = false := decide_eq_false (by omega)
       clear c16
       by_cases c17 : ((rd_T63 l0_0 x20_1).f0).toList = ([115, 43] : List UInt8)
       ·rw [if_pos c17] at H
        have c17b0 : (((rd_T63 l0_0 x20_1).f0).toList == ([115, 43] : List UInt8)) = true := beq_iff_eq.mpr c17
        have c17b1 : (((rd_T63 l0_0 x20_1).f0).toList != ([115, 43] : List UInt8)) = false := bne_eq_false_iff_eq.mpr c17
        clear c17
        by_cases c18 : x3_1.length < 2513169434916
        ·rw [if_pos c18] at H
         have LMc18 := Aside0.mk c18
         clear c18
         obtain ⟨y369, hy369⟩ : ∃ y_ : List (S67), y_ = (x3_1 ++ [(⟨4, (rd_T63 l0_0 x20_1).f0, (⟨#[]⟩ : ByteArray), (⟨#[]⟩ : ByteArray)⟩ : S67)]) := ⟨_, rfl⟩
         replace H : (impl_ShedActs.l0 k1 y369 l0_0 (l0_0.length : Int) (wrap64 (x20_1 + 1)) t359 t360 t361 t364) = some r := by first | (rw [hy369]; with_reducible exact H) | (have H2_ := (Option.bind_some _ _).symm.trans H; rw [hy369]; with_reducible exact H2_) | (have H2_ := (Option.bind_some _ _).symm.trans H; with_reducible exact H2_) | with_reducible exact H | (rw [hy369]; exact H) | exact H
         have Ny369 := Aside0.mk hy369
         clear hy369
         have H' := Aside0.mk H
         clear H
         have p367 : 0 ≤ (x20_1 : Int) := of_decide_eq_true (by first | (with_reducible assumption) | assumption)
         have q367 : x20_1 < (l0_0.length : Int) := of_decide_eq_true (by first | (with_reducible assumption) | assumption)
         obtain ⟨ad367, e367, hx367_0, hx367_1, hx367_2⟩ := at_T63 HR0_0.out x20_1 p367 q367
         cases e367
         replace hx367_0 := (HB.out.cell (World.block_lt_of_cell? w _ hx367_0)).trans hx367_0
         replace hx367_1 := (HB.out.cell (World.block_lt_of_cell? w _ hx367_1)).trans hx367_1
         replace hx367_2 := (HB.out.cell (World.block_lt_of_cell? w _ hx367_2)).trans hx367_2
         replace p367 := eq_true p367
         replace q367 := eq_true q367
         try go_wp2_with (first | ((with_reducible refine gate_dst (N := 7) rfl ?_); refine box_event rfl (N := 7) rfl (cs := #[.string (⟨#[]⟩ : ByteArray), .string (⟨#[]⟩ : ByteArray), .int .i64 0]) (t := 63) zrun ?_; intro gb368 hg w19 hbox hb; have BK368 := am (hbox); have GW368 := zge hg (zb2 HB.out GE355.out GE366.out); have GE368 := zge hg (zb2 HB.out GE355.out GE366.out); obtain ⟨NB355_368, NB368_355⟩ := zne hg BK355; obtain ⟨NB366_368, NB368_366⟩ := zne hg BK366; replace HO_3 := am (Kd.R_below (rx HO_3.out) hb); replace HO_367002 := am (Kd.R_below (rx HO_367002.out) hb); replace BK355 := zk hb BK355; replace BK366 := zk hb BK366; replace HB := zs2 hb HB GE355 GE366; clear hb hbox hg; obtain ⟨hnb20, hnc20⟩ := zn2 NB368_355; obtain ⟨hnb21, hnc21⟩ := zn2 NB368_366; obtain ⟨hcz22_0, hcz22_1, hcz22_2, hfz22_0, hfz22_1, hfz22_2⟩ := zc3 BK368.out))
         have n0_ : Aside0 (Kd.R k67 67 (((w19.setCell ⟨gb368, 0, none⟩ (.string ((rd_T63 l0_0 x20_1).f0))).setCell ⟨gb368, 1, none⟩ (.string ((rd_T63 l0_0 x20_1).f1))).setCell ⟨gb368, 2, none⟩ (.int .i64 ((rd_T63 l0_0 x20_1).f2))) w.heap.size (fun _ => True) u3 x3_1) := ⟨rx (Kd.R_mono (Kd.R_far (p := ⟨gb368, 2, none⟩) (Kd.R_far (p := ⟨gb368, 1, none⟩) (Kd.R_far (p := ⟨gb368, 0, none⟩) (Kd.R_types HO_3.out BK368.out (by decide)) (fun _ hk => hk.2) (.string ((rd_T63 l0_0 x20_1).f0))) (fun _ hk => hk.2) (.string ((rd_T63 l0_0 x20_1).f1))) (fun _ hk => hk.2) (.int .i64 ((rd_T63 l0_0 x20_1).f2))) (fun _ hk => trivial))⟩
         have n1_ : Aside0 (Kd.R (Kd.int .i64) 3 (((w19.setCell ⟨gb368, 0, none⟩ (.string ((rd_T63 l0_0 x20_1).f0))).setCell ⟨gb368, 1, none⟩ (.string ((rd_T63 l0_0 x20_1).f1))).setCell ⟨gb368, 2, none⟩ (.int .i64 ((rd_T63 l0_0 x20_1).f2))) w.heap.size (fun _ => True) (.slice Ao12 t361.length co12) t361) := ⟨rx (Kd.R_mono (Kd.R_far (p := ⟨gb368, 2, none⟩) (Kd.R_far (p := ⟨gb368, 1, none⟩) (Kd.R_far (p := ⟨gb368, 0, none⟩) (Kd.R_types HO_367002.out BK368.out (by decide)) (fun _ hk => hk.2) (.string ((rd_T63 l0_0 x20_1).f0))) (fun _ hk => hk.2) (.string ((rd_T63 l0_0 x20_1).f1))) (fun _ hk => hk.2) (.int .i64 ((rd_T63 l0_0 x20_1).f2))) (fun _ hk => trivial))⟩
         have n2_ : Aside0 ((((w19.setCell ⟨gb368, 0, none⟩ (.string ((rd_T63 l0_0 x20_1).f0))).setCell ⟨gb368, 1, none⟩ (.string ((rd_T63 l0_0 x20_1).f1))).setCell ⟨gb368, 2, none⟩ (.int .i64 ((rd_T63 l0_0 x20_1).f2))).heap[gb355]? = some (.cells #[.slice (some ad367) l0_0.length c0_0] 30 (0, 0))) := ⟨zf1 BK355.out NB355_368.out⟩
         have n3_ : Aside0 ((((w19.setCell ⟨gb368, 0, none⟩ (.string ((rd_T63 l0_0 x20_1).f0))).setCell ⟨gb368, 1, none⟩ (.string ((rd_T63 l0_0 x20_1).f1))).setCell ⟨gb368, 2, none⟩ (.int .i64 ((rd_T63 l0_0 x20_1).f2))).heap[gb366]? = some (.cells #[.int .i64 t359, .int .i64 t360, .slice Ao12 t361.length co12, .string t364] 52 (0, 0))) := ⟨zf1 BK366.out NB366_368.out⟩
         have n4_ : Aside0 ((((w19.setCell ⟨gb368, 0, none⟩ (.string ((rd_T63 l0_0 x20_1).f0))).setCell ⟨gb368, 1, none⟩ (.string ((rd_T63 l0_0 x20_1).f1))).setCell ⟨gb368, 2, none⟩ (.int .i64 ((rd_T63 l0_0 x20_1).f2))).heap[gb368]? = some (.cells #[.string ((rd_T63 l0_0 x20_1).f0), .string ((rd_T63 l0_0 x20_1).f1), .int .i64 ((rd_T63 l0_0 x20_1).f2)] 63 (0, 0))) := ⟨by (with_reducible repeat (first | refine blk_drewN ?_ _ | refine blk_drew ?_ | refine blk_alloc ?_ _)); refine blk_put (cs := #[.string ((rd_T63 l0_0 x20_1).f0), .string ((rd_T63 l0_0 x20_1).f1), .int .i64 0]) ?_ 2 _ rfl; (with_reducible repeat (first | refine blk_drewN ?_ _ | refine blk_drew ?_ | refine blk_alloc ?_ _)); refine blk_put (cs := #[.string ((rd_T63 l0_0 x20_1).f0), .string (⟨#[]⟩ : ByteArray), .int .i64 0]) ?_ 1 _ rfl; (with_reducible repeat (first | refine blk_drewN ?_ _ | refine blk_drew ?_ | refine blk_alloc ?_ _)); refine blk_put (cs := #[.string (⟨#[]⟩ : ByteArray), .string (⟨#[]⟩ : ByteArray), .int .i64 0]) ?_ 0 _ rfl; (with_reducible repeat (first | refine blk_drewN ?_ _ | refine blk_drew ?_ | refine blk_alloc ?_ _)); exact BK368.out⟩
         have n5_ : Aside0 (Below w.heap.size w (((w19.setCell ⟨gb368, 0, none⟩ (.string ((rd_T63 l0_0 x20_1).f0))).setCell ⟨gb368, 1, none⟩ (.string ((rd_T63 l0_0 x20_1).f1))).setCell ⟨gb368, 2, none⟩ (.int .i64 ((rd_T63 l0_0 x20_1).f2)))) := ⟨zb3 HB.out GE355.out GE366.out GE368.out⟩
         generalize (((w19.setCell ⟨gb368, 0, none⟩ (.string ((rd_T63 l0_0 x20_1).f0))).setCell ⟨gb368, 1, none⟩ (.string ((rd_T63 l0_0 x20_1).f1))).setCell ⟨gb368, 2, none⟩ (.int .i64 ((rd_T63 l0_0 x20_1).f2))) = w23 at n0_ n1_ n2_ n3_ n4_ n5_ ⊢
         have HO_3 := n0_
         have HO_367002 := n1_
         have BK355 := n2_
         have BK366 := n3_
         have BK368 := n4_
         have HB := n5_
         clear n0_ n1_ n2_ n3_ n4_ n5_
         replace HO_3 := am (Kd.R_drew HO_3.out)
         replace HO_367002 := am (Kd.R_drew HO_367002.out)
         replace BK355 := am (blk_drew BK355.out)
         replace BK366 := am (blk_drew BK366.out)
         replace BK368 := am (blk_drew BK368.out)
         replace HB := am (below_drew1 HB.out)
         refine start_ (n := 15) (S := fun w' => w'.cell? ⟨gb368, 0, none⟩ = some (.string ((rd_T63 l0_0 x20_1).f0)) ∧ w'.cell? ⟨gb368, 1, none⟩ = some (.string ((rd_T63 l0_0 x20_1).f1)) ∧ w'.cell? ⟨gb368, 2, none⟩ = some (.int .i64 ((rd_T63 l0_0 x20_1).f2))) (ds := []) #[false, false, false, false, false, false, false, false, false, false, false, false, false, false, false] (by kernel_rfl) rfl rfl ⟨ct BK368.out 0, ct BK368.out 1, ct BK368.out 2⟩ (fun hHeld => ?_); refine with_tabW impl_ShedActs.tab8 impl_ShedActs.bits8 (fun HT_ HW_ => ?_)
         generalize w23.drew = w24 at HO_3 HO_367002 BK355 BK366 BK368 HB hHeld ⊢
         refine zpu 0 24 #[true, false, false, false, false, false, false, false, false, false, false, false, false, false, false] HT_ ?_
         refine ztk3 1 25 #[true, true, false, false, false, false, false, false, false, false, false, false, false, false, false] HT_ HW_ hHeld ?_
         refine zpu 2 26 #[true, true, true, false, false, false, false, false, false, false, false, false, false, false, false] HT_ ?_
         refine zpu 3 27 #[true, true, true, true, false, false, false, false, false, false, false, false, false, false, false] HT_ ?_
         refine pure_ (i := 4) (N := some 28) (v := undef) (a' := ?_) #[true, true, true, true, true, false, false, false, false, false, false, false, false, false, false] rfl rfl (any_of HT_.out (by kernel_rfl)) (fun _ _ _ h => h) (Or.inr ⟨by rfl, rfl⟩) ?_ ?_
         rotate_left
         ·simp only [Act.put, List.setIfInBounds_toArray, List.set_cons_zero, List.set_cons_succ, i64_w, i32_w]
          rfl
         refine pure_ (i := 5) (N := some 29) (v := undef) (a' := ?_) #[true, true, true, true, true, true, false, false, false, false, false, false, false, false, false] rfl rfl (any_of HT_.out (by kernel_rfl)) (fun _ _ _ h => h) (Or.inr ⟨by rfl, rfl⟩) ?_ ?_
         rotate_left
         ·simp only [Act.put, List.setIfInBounds_toArray, List.set_cons_zero, List.set_cons_succ, i64_w, i32_w]
          rfl
         refine pure_ (i := 6) (N := some 30) (v := undef) (a' := ?_) #[true, true, true, true, true, true, true, false, false, false, false, false, false, false, false] rfl rfl (any_of HT_.out (by kernel_rfl)) (fun _ _ _ h => h) (Or.inr ⟨by rfl, rfl⟩) ?_ ?_
         rotate_left
         ·simp only [Act.put, List.setIfInBounds_toArray, List.set_cons_zero, List.set_cons_succ, i64_w, i32_w]
          rfl
         refine pure_ (i := 7) (N := some 31) (v := undef) (a' := ?_) #[true, true, true, true, true, true, true, true, false, false, false, false, false, false, false] rfl rfl (any_of HT_.out (by kernel_rfl)) (fun _ _ _ h => h) (Or.inr ⟨by rfl, rfl⟩) ?_ ?_
         rotate_left
         ·simp only [Act.put, List.setIfInBounds_toArray, List.set_cons_zero, List.set_cons_succ, i64_w, i32_w]
          rfl
         refine pure_ (i := 8) (N := some 32) (v := undef) (a' := ?_) #[true, true, true, true, true, true, true, true, true, false, false, false, false, false, false] rfl rfl (any_of HT_.out (by kernel_rfl)) (fun _ _ _ h => h) (Or.inr ⟨by rfl, rfl⟩) ?_ ?_
         rotate_left
         ·simp only [Act.put, List.setIfInBounds_toArray, List.set_cons_zero, List.set_cons_succ, i64_w, i32_w]
          rfl
         refine pure_ (i := 9) (N := some 33) (v := undef) (a' := ?_) #[true, true, true, true, true, true, true, true, true, true, false, false, false, false, false] rfl rfl (any_of HT_.out (by kernel_rfl)) (fun _ _ _ h => h) (Or.inr ⟨by rfl, rfl⟩) ?_ ?_
         rotate_left
         ·simp only [Act.put, List.setIfInBounds_toArray, List.set_cons_zero, List.set_cons_succ, i64_w, i32_w]
          rfl
         refine pure_ (i := 10) (N := some 34) (v := undef) (a' := ?_) #[true, true, true, true, true, true, true, true, true, true, true, false, false, false, false] rfl rfl (any_of HT_.out (by kernel_rfl)) (fun _ _ _ h => h) (Or.inr ⟨by rfl, rfl⟩) ?_ ?_
         rotate_left
         ·simp only [Act.put, List.setIfInBounds_toArray, List.set_cons_zero, List.set_cons_succ, i64_w, i32_w]
          rfl
         refine pure_ (i := 11) (N := some 35) (v := undef) (a' := ?_) #[true, true, true, true, true, true, true, true, true, true, true, true, false, false, false] rfl rfl (any_of HT_.out (by kernel_rfl)) (fun _ _ _ h => h) (Or.inr ⟨by rfl, rfl⟩) ?_ ?_
         rotate_left
         ·simp only [Act.put, List.setIfInBounds_toArray, List.set_cons_zero, List.set_cons_succ, i64_w, i32_w]
          rfl
         refine pure_ (i := 12) (N := some 36) (v := undef) (a' := ?_) #[true, true, true, true, true, true, true, true, true, true, true, true, true, false, false] rfl rfl (any_of HT_.out (by kernel_rfl)) (fun _ _ _ h => h) (Or.inr ⟨by rfl, rfl⟩) ?_ ?_
         rotate_left
         ·simp only [Act.put, List.setIfInBounds_toArray, List.set_cons_zero, List.set_cons_succ, i64_w, i32_w]
          rfl
         refine pure_ (i := 13) (N := some 37) (v := undef) (a' := ?_) #[true, true, true, true, true, true, true, true, true, true, true, true, true, true, false] rfl rfl (any_of HT_.out (by kernel_rfl)) (fun _ _ _ h => h) (Or.inr ⟨by rfl, rfl⟩) ?_ ?_
         rotate_left
         ·simp only [Act.put, List.setIfInBounds_toArray, List.set_cons_zero, List.set_cons_succ, i64_w, i32_w]
          rfl
         refine zpu 14 38 #[true, true, true, true, true, true, true, true, true, true, true, true, true, true, true] HT_ ?_
         refine zdn HT_ ?_
         obtain ⟨hcz25_0, hcz25_1, hcz25_2, hfz25_0, hfz25_1, hfz25_2⟩ := zc3 BK368.out
         try go_wp2_with (first | ((with_reducible refine gate_builtin (b := .append) (xs := #[.tmp 39, .tmp 43]) rfl ?_); at_builtin; refine Kd.R_append k67 (w0 := w) w.heap.size rfl (.tmp 39) (.tmp 43) 26 67 (.agg #[(.int .i64 0), (.string ⟨#[]⟩), (.string ⟨#[]⟩), (.string ⟨#[]⟩)]) 56 rfl Tryz.underlying26 info67 rfl (by decide) (by omega) u3 x3_1 (⟨4, (rd_T63 l0_0 x20_1).f0, (⟨#[]⟩ : ByteArray), (⟨#[]⟩ : ByteArray)⟩ : S67) [.int .i64 4, .string ((rd_T63 l0_0 x20_1).f0), .string (⟨#[]⟩ : ByteArray), .string (⟨#[]⟩ : ByteArray)] (fun _ => True) (fun _ => False) rfl rfl ?aP (fun _ hk => hk.elim) ?aF ?aO ?aB ?aS ?aL ?_; (case aP => exact k67_mkM _ _ _ (⟨4, (rd_T63 l0_0 x20_1).f0, (⟨#[]⟩ : ByteArray), (⟨#[]⟩ : ByteArray)⟩ : S67)); (case aB => exact (zb3 HB.out GE355.out GE366.out GE368.out)); (case aF => exact (fun _ _ => trivial)); (case aO => exact (rx HO_3.out)); (case aS => exact (below_size (zb3 HB.out GE355.out GE366.out GE368.out))); (case aL => have := LMc18.out; omega); intro v370 w26 ho hb hg hat; rw [← Ny369.out] at ho; have HO371 := am (ho); replace HO_367002 := am (Kd.R_over' (rx HO_367002.out) (Kd.R_typed (rx HO_3.out)) (by decide) hg); replace BK355 := am (blk_grown (g := gb355) (o := .cells #[.slice (some ad367) l0_0.length c0_0] 30 (0, 0)) (kx BK355.out) hg (Kd.R_ne HO_3.out BK355.out (by decide))); replace BK366 := am (blk_grown (g := gb366) (o := .cells #[.int .i64 t359, .int .i64 t360, .slice Ao12 t361.length co12, .string t364] 52 (0, 0)) (kx BK366.out) hg (Kd.R_ne HO_3.out BK366.out (by decide))); replace BK368 := am (blk_grown (g := gb368) (o := .cells #[.string ((rd_T63 l0_0 x20_1).f0), .string ((rd_T63 l0_0 x20_1).f1), .int .i64 ((rd_T63 l0_0 x20_1).f2)] 63 (0, 0)) (kx BK368.out) hg (Kd.R_ne HO_3.out BK368.out (by decide))); replace HB := am (hb); clear HO_3; clear ho hb hg hat))
         go_roundg k1
         case measure => have := HK1.out; omega
         case rel => exact ⟨(y369), (wrap64 (x20_1 + 1)), (by first | rfl | (simp; done) | (simp [*]; done)), H', ⟨by have := HK1.out; omega⟩, ⟨rx HO371.out⟩, ⟨rx HO_367002.out⟩, ⟨kx BK355.out⟩, ⟨kx BK366.out⟩, ⟨zb3 HB.out GE355.out GE366.out GE368.out⟩⟩
        ·rw [if_neg c18] at H
         exact absurd H (by simp)
       ·rw [if_neg c17] at H
        have c17b0 : (((rd_T63 l0_0 x20_1).f0).toList == ([115, 43] : List UInt8)) = false := beq_eq_false_iff_ne.mpr c17
        have c17b1 : (((rd_T63 l0_0 x20_1).f0).toList != ([115, 43] : List UInt8)) = true := bne_iff_ne.mpr c17
        replace H := Option.bind_eq_some_iff.mp H
        obtain ⟨t372, A270, H⟩ := H
        try dsimp only at H
        have A27 := Aside0.mk A270
        clear A270
        by_cases c28 : t372 = true
        ·subst c28
         have H1 : ((impl_SnapName.f t359).bind fun t373 => (if ((rd_T63 l0_0 x20_1).f0).toList = t373.toList then (impl_ShedActs.l0 k1 x3_1 l0_0 (l0_0.length : Int) (wrap64 (x20_1 + 1)) t359 t360 t361 t364) else (if x3_1.length < 2513169434916 then (impl_ShedActs.l0 k1 (x3_1 ++ [(⟨4, (rd_T63 l0_0 x20_1).f0, (⟨#[]⟩ : ByteArray), (⟨#[]⟩ : ByteArray)⟩ : S67)]) l0_0 (l0_0.length : Int) (wrap64 (x20_1 + 1)) t359 t360 t361 t364) else (none)))) = some r := by rw [if_pos rfl] at H; exact H
         clear H
         have H := H1
         clear H1
         replace H := Option.bind_eq_some_iff.mp H
         obtain ⟨t373, A290, H⟩ := H
         try dsimp only at H
         have A29 := Aside0.mk A290
         clear A290
         by_cases c30 : ((rd_T63 l0_0 x20_1).f0).toList = t373.toList
         ·rw [if_pos c30] at H
          have c30b0 : (((rd_T63 l0_0 x20_1).f0).toList == t373.toList) = true := beq_iff_eq.mpr c30
          have c30b1 : (((rd_T63 l0_0 x20_1).f0).toList != t373.toList) = false := bne_eq_false_iff_eq.mpr c30
          clear c30
          have H' := Aside0.mk H
          clear H
          have p367 : 0 ≤ (x20_1 : Int) := of_decide_eq_true (by first | (with_reducible assumption) | assumption)
          have q367 : x20_1 < (l0_0.length : Int) := of_decide_eq_true (by first | (with_reducible assumption) | assumption)
          obtain ⟨ad367, e367, hx367_0, hx367_1, hx367_2⟩ := at_T63 HR0_0.out x20_1 p367 q367
          cases e367
          replace hx367_0 := (HB.out.cell (World.block_lt_of_cell? w _ hx367_0)).trans hx367_0
          replace hx367_1 := (HB.out.cell (World.block_lt_of_cell? w _ hx367_1)).trans hx367_1
          replace hx367_2 := (HB.out.cell (World.block_lt_of_cell? w _ hx367_2)).trans hx367_2
          replace p367 := eq_true p367
          replace q367 := eq_true q367
          try go_wp2_with (first | ((with_reducible refine gate_dst (N := 7) rfl ?_); refine box_event rfl (N := 7) rfl (cs := #[.string (⟨#[]⟩ : ByteArray), .string (⟨#[]⟩ : ByteArray), .int .i64 0]) (t := 63) zrun ?_; intro gb368 hg w31 hbox hb; have BK368 := am (hbox); have GW368 := zge hg (zb2 HB.out GE355.out GE366.out); have GE368 := zge hg (zb2 HB.out GE355.out GE366.out); obtain ⟨NB355_368, NB368_355⟩ := zne hg BK355; obtain ⟨NB366_368, NB368_366⟩ := zne hg BK366; replace HO_3 := am (Kd.R_below (rx HO_3.out) hb); replace HO_367002 := am (Kd.R_below (rx HO_367002.out) hb); replace BK355 := zk hb BK355; replace BK366 := zk hb BK366; replace HB := zs2 hb HB GE355 GE366; clear hb hbox hg; obtain ⟨hnb32, hnc32⟩ := zn2 NB368_355; obtain ⟨hnb33, hnc33⟩ := zn2 NB368_366; obtain ⟨hcz34_0, hcz34_1, hcz34_2, hfz34_0, hfz34_1, hfz34_2⟩ := zc3 BK368.out))
          have n0_ : Aside0 (Kd.R k67 67 (((w31.setCell ⟨gb368, 0, none⟩ (.string ((rd_T63 l0_0 x20_1).f0))).setCell ⟨gb368, 1, none⟩ (.string ((rd_T63 l0_0 x20_1).f1))).setCell ⟨gb368, 2, none⟩ (.int .i64 ((rd_T63 l0_0 x20_1).f2))) w.heap.size (fun _ => True) u3 x3_1) := ⟨rx (Kd.R_mono (Kd.R_far (p := ⟨gb368, 2, none⟩) (Kd.R_far (p := ⟨gb368, 1, none⟩) (Kd.R_far (p := ⟨gb368, 0, none⟩) (Kd.R_types HO_3.out BK368.out (by decide)) (fun _ hk => hk.2) (.string ((rd_T63 l0_0 x20_1).f0))) (fun _ hk => hk.2) (.string ((rd_T63 l0_0 x20_1).f1))) (fun _ hk => hk.2) (.int .i64 ((rd_T63 l0_0 x20_1).f2))) (fun _ hk => trivial))⟩
          have n1_ : Aside0 (Kd.R (Kd.int .i64) 3 (((w31.setCell ⟨gb368, 0, none⟩ (.string ((rd_T63 l0_0 x20_1).f0))).setCell ⟨gb368, 1, none⟩ (.string ((rd_T63 l0_0 x20_1).f1))).setCell ⟨gb368, 2, none⟩ (.int .i64 ((rd_T63 l0_0 x20_1).f2))) w.heap.size (fun _ => True) (.slice Ao12 t361.length co12) t361) := ⟨rx (Kd.R_mono (Kd.R_far (p := ⟨gb368, 2, none⟩) (Kd.R_far (p := ⟨gb368, 1, none⟩) (Kd.R_far (p := ⟨gb368, 0, none⟩) (Kd.R_types HO_367002.out BK368.out (by decide)) (fun _ hk => hk.2) (.string ((rd_T63 l0_0 x20_1).f0))) (fun _ hk => hk.2) (.string ((rd_T63 l0_0 x20_1).f1))) (fun _ hk => hk.2) (.int .i64 ((rd_T63 l0_0 x20_1).f2))) (fun _ hk => trivial))⟩
          have n2_ : Aside0 ((((w31.setCell ⟨gb368, 0, none⟩ (.string ((rd_T63 l0_0 x20_1).f0))).setCell ⟨gb368, 1, none⟩ (.string ((rd_T63 l0_0 x20_1).f1))).setCell ⟨gb368, 2, none⟩ (.int .i64 ((rd_T63 l0_0 x20_1).f2))).heap[gb355]? = some (.cells #[.slice (some ad367) l0_0.length c0_0] 30 (0, 0))) := ⟨zf1 BK355.out NB355_368.out⟩
          have n3_ : Aside0 ((((w31.setCell ⟨gb368, 0, none⟩ (.string ((rd_T63 l0_0 x20_1).f0))).setCell ⟨gb368, 1, none⟩ (.string ((rd_T63 l0_0 x20_1).f1))).setCell ⟨gb368, 2, none⟩ (.int .i64 ((rd_T63 l0_0 x20_1).f2))).heap[gb366]? = some (.cells #[.int .i64 t359, .int .i64 t360, .slice Ao12 t361.length co12, .string t364] 52 (0, 0))) := ⟨zf1 BK366.out NB366_368.out⟩
          have n4_ : Aside0 ((((w31.setCell ⟨gb368, 0, none⟩ (.string ((rd_T63 l0_0 x20_1).f0))).setCell ⟨gb368, 1, none⟩ (.string ((rd_T63 l0_0 x20_1).f1))).setCell ⟨gb368, 2, none⟩ (.int .i64 ((rd_T63 l0_0 x20_1).f2))).heap[gb368]? = some (.cells #[.string ((rd_T63 l0_0 x20_1).f0), .string ((rd_T63 l0_0 x20_1).f1), .int .i64 ((rd_T63 l0_0 x20_1).f2)] 63 (0, 0))) := ⟨by (with_reducible repeat (first | refine blk_drewN ?_ _ | refine blk_drew ?_ | refine blk_alloc ?_ _)); refine blk_put (cs := #[.string ((rd_T63 l0_0 x20_1).f0), .string ((rd_T63 l0_0 x20_1).f1), .int .i64 0]) ?_ 2 _ rfl; (with_reducible repeat (first | refine blk_drewN ?_ _ | refine blk_drew ?_ | refine blk_alloc ?_ _)); refine blk_put (cs := #[.string ((rd_T63 l0_0 x20_1).f0), .string (⟨#[]⟩ : ByteArray), .int .i64 0]) ?_ 1 _ rfl; (with_reducible repeat (first | refine blk_drewN ?_ _ | refine blk_drew ?_ | refine blk_alloc ?_ _)); refine blk_put (cs := #[.string (⟨#[]⟩ : ByteArray), .string (⟨#[]⟩ : ByteArray), .int .i64 0]) ?_ 0 _ rfl; (with_reducible repeat (first | refine blk_drewN ?_ _ | refine blk_drew ?_ | refine blk_alloc ?_ _)); exact BK368.out⟩
          have n5_ : Aside0 (Below w.heap.size w (((w31.setCell ⟨gb368, 0, none⟩ (.string ((rd_T63 l0_0 x20_1).f0))).setCell ⟨gb368, 1, none⟩ (.string ((rd_T63 l0_0 x20_1).f1))).setCell ⟨gb368, 2, none⟩ (.int .i64 ((rd_T63 l0_0 x20_1).f2)))) := ⟨zb3 HB.out GE355.out GE366.out GE368.out⟩
          generalize (((w31.setCell ⟨gb368, 0, none⟩ (.string ((rd_T63 l0_0 x20_1).f0))).setCell ⟨gb368, 1, none⟩ (.string ((rd_T63 l0_0 x20_1).f1))).setCell ⟨gb368, 2, none⟩ (.int .i64 ((rd_T63 l0_0 x20_1).f2))) = w35 at n0_ n1_ n2_ n3_ n4_ n5_ ⊢
          have HO_3 := n0_
          have HO_367002 := n1_
          have BK355 := n2_
          have BK366 := n3_
          have BK368 := n4_
          have HB := n5_
          clear n0_ n1_ n2_ n3_ n4_ n5_
          replace HO_3 := am (Kd.R_drew HO_3.out)
          replace HO_367002 := am (Kd.R_drew HO_367002.out)
          replace BK355 := am (blk_drew BK355.out)
          replace BK366 := am (blk_drew BK366.out)
          replace BK368 := am (blk_drew BK368.out)
          replace HB := am (below_drew1 HB.out)
          refine start_ (n := 15) (S := fun w' => w'.cell? ⟨gb368, 0, none⟩ = some (.string ((rd_T63 l0_0 x20_1).f0)) ∧ w'.cell? ⟨gb368, 1, none⟩ = some (.string ((rd_T63 l0_0 x20_1).f1)) ∧ w'.cell? ⟨gb368, 2, none⟩ = some (.int .i64 ((rd_T63 l0_0 x20_1).f2)) ∧ w'.cell? ⟨gb366, 0, none⟩ = some (.int .i64 t359) ∧ w'.cell? ⟨gb366, 1, none⟩ = some (.int .i64 t360) ∧ w'.cell? ⟨gb366, 2, none⟩ = some (.slice Ao12 t361.length co12) ∧ w'.cell? ⟨gb366, 3, none⟩ = some (.string t364)) (ds := []) #[false, false, false, false, false, false, false, false, false, false, false, false, false, false, false] (by kernel_rfl) rfl rfl ⟨ct BK368.out 0, ct BK368.out 1, ct BK368.out 2, ct BK366.out 0, ct BK366.out 1, ct BK366.out 2, ct BK366.out 3⟩ (fun hHeld => ?_); refine with_tabW impl_ShedActs.tab8 impl_ShedActs.bits8 (fun HT_ HW_ => ?_)
          generalize w35.drew = w36 at HO_3 HO_367002 BK355 BK366 BK368 HB hHeld ⊢
          refine zpu 0 24 #[true, false, false, false, false, false, false, false, false, false, false, false, false, false, false] HT_ ?_
          refine ztk7 1 25 #[true, true, false, false, false, false, false, false, false, false, false, false, false, false, false] HT_ HW_ hHeld ?_
          refine zpu 2 26 #[true, true, true, false, false, false, false, false, false, false, false, false, false, false, false] HT_ ?_
          refine zpu 3 27 #[true, true, true, true, false, false, false, false, false, false, false, false, false, false, false] HT_ ?_
          refine ztk7 4 28 #[true, true, true, true, true, false, false, false, false, false, false, false, false, false, false] HT_ HW_ hHeld ?_
          refine zon 5 #[true, true, true, true, true, true, false, false, false, false, false, false, false, false, false] HT_ (fun K hK => ?_)
          refine goes_ Tryz.func32 (by kernel_rfl) rfl #[.agg #[.string ((rd_T63 l0_0 x20_1).f0), .string ((rd_T63 l0_0 x20_1).f1), .int .i64 ((rd_T63 l0_0 x20_1).f2)]] (by rfl) rfl rfl zr ?_
          with_reducible refine (impl_isSnap.calls k1 ((rd_T63 l0_0 x20_1).f0) ((rd_T63 l0_0 x20_1).f1) ((rd_T63 l0_0 x20_1).f2) true _ A27.out ?laid).mono ?_; (case laid => exact LaidW.later HLW.out (zb3 HB.out GE355.out GE366.out GE368.out))
          rintro e w37 ⟨rfl, hb⟩
          refine ⟨_, rfl, ?_⟩
          replace HO_3 := am (Kd.R_below (rx HO_3.out) hb)
          replace HO_367002 := am (Kd.R_below (rx HO_367002.out) hb)
          replace BK355 := zk hb BK355
          replace BK366 := zk hb BK366
          replace BK368 := zk hb BK368
          replace HB := zs3 hb HB GE355 GE366 GE368
          refine hK.out _ _ ⟨ct BK368.out 0, ct BK368.out 1, ct BK368.out 2, ct BK366.out 0, ct BK366.out 1, ct BK366.out 2, ct BK366.out 3⟩ (fun hHeld => ?_)
          clear hK K
          refine znm 29 ?_
          refine zpu 6 30 #[true, true, true, true, true, true, true, false, false, false, false, false, false, false, false] HT_ ?_
          refine zpu 7 31 #[true, true, true, true, true, true, true, true, false, false, false, false, false, false, false] HT_ ?_
          refine zpu 9 33 #[true, true, true, true, true, true, true, true, false, true, false, false, false, false, false] HT_ ?_
          refine ztk7 8 32 #[true, true, true, true, true, true, true, true, true, true, false, false, false, false, false] HT_ HW_ hHeld ?_
          refine ztk7 10 34 #[true, true, true, true, true, true, true, true, true, true, true, false, false, false, false] HT_ HW_ hHeld ?_
          refine zon 11 #[true, true, true, true, true, true, true, true, true, true, true, true, false, false, false] HT_ (fun K hK => ?_)
          refine goes_ Tryz.func33 (by kernel_rfl) rfl #[.int .i64 t359] (by rfl) rfl rfl zr ?_
          with_reducible refine (impl_SnapName.calls t359 t373 _ A29.out ?laid).mono ?_; (case laid => exact LaidW.later HLW.out (zb3 HB.out GE355.out GE366.out GE368.out))
          rintro e w38 ⟨rfl, hb⟩
          refine ⟨_, rfl, ?_⟩
          replace HO_3 := am (Kd.R_below (rx HO_3.out) hb)
          replace HO_367002 := am (Kd.R_below (rx HO_367002.out) hb)
          replace BK355 := zk hb BK355
          replace BK366 := zk hb BK366
          replace BK368 := zk hb BK368
          replace HB := zs3 hb HB GE355 GE366 GE368
          refine hK.out _ _ ⟨ct BK368.out 0, ct BK368.out 1, ct BK368.out 2, ct BK366.out 0, ct BK366.out 1, ct BK366.out 2, ct BK366.out 3⟩ (fun hHeld => ?_)
          clear hK K
          refine znm 35 ?_
          refine zpu 12 36 #[true, true, true, true, true, true, true, true, true, true, true, true, true, false, false] HT_ ?_
          refine zpu 13 37 #[true, true, true, true, true, true, true, true, true, true, true, true, true, true, false] HT_ ?_
          refine zpu 14 38 #[true, true, true, true, true, true, true, true, true, true, true, true, true, true, true] HT_ ?_
          refine zdn HT_ ?_
          try go_wp2
          go_roundg k1
          case measure => have := HK1.out; omega
          case rel => exact ⟨(x3_1), (wrap64 (x20_1 + 1)), (by first | rfl | (simp; done) | (simp [*]; done)), H', ⟨by have := HK1.out; omega⟩, ⟨rx HO_3.out⟩, ⟨rx HO_367002.out⟩, ⟨kx BK355.out⟩, ⟨kx BK366.out⟩, ⟨zb3 HB.out GE355.out GE366.out GE368.out⟩⟩
         ·rw [if_neg c30] at H
          have c30b0 : (((rd_T63 l0_0 x20_1).f0).toList == t373.toList) = false := beq_eq_false_iff_ne.mpr c30
          have c30b1 : (((rd_T63 l0_0 x20_1).f0).toList != t373.toList) = true := bne_iff_ne.mpr c30
          by_cases c39 : x3_1.length < 2513169434916
          ·rw [if_pos c39] at H
           have LMc39 := Aside0.mk c39
           clear c39
           obtain ⟨y374, hy374⟩ : ∃ y_ : List (S67), y_ = (x3_1 ++ [(⟨4, (rd_T63 l0_0 x20_1).f0, (⟨#[]⟩ : ByteArray), (⟨#[]⟩ : ByteArray)⟩ : S67)]) := ⟨_, rfl⟩
           replace H : (impl_ShedActs.l0 k1 y374 l0_0 (l0_0.length : Int) (wrap64 (x20_1 + 1)) t359 t360 t361 t364) = some r := by first | (rw [hy374]; with_reducible exact H) | (have H2_ := (Option.bind_some _ _).symm.trans H; rw [hy374]; with_reducible exact H2_) | (have H2_ := (Option.bind_some _ _).symm.trans H; with_reducible exact H2_) | with_reducible exact H | (rw [hy374]; exact H) | exact H
           have Ny374 := Aside0.mk hy374
           clear hy374
           have H' := Aside0.mk H
           clear H
           have p367 : 0 ≤ (x20_1 : Int) := of_decide_eq_true (by first | (with_reducible assumption) | assumption)
           have q367 : x20_1 < (l0_0.length : Int) := of_decide_eq_true (by first | (with_reducible assumption) | assumption)
           obtain ⟨ad367, e367, hx367_0, hx367_1, hx367_2⟩ := at_T63 HR0_0.out x20_1 p367 q367
           cases e367
           replace hx367_0 := (HB.out.cell (World.block_lt_of_cell? w _ hx367_0)).trans hx367_0
           replace hx367_1 := (HB.out.cell (World.block_lt_of_cell? w _ hx367_1)).trans hx367_1
           replace hx367_2 := (HB.out.cell (World.block_lt_of_cell? w _ hx367_2)).trans hx367_2
           replace p367 := eq_true p367
           replace q367 := eq_true q367
           try go_wp2_with (first | ((with_reducible refine gate_dst (N := 7) rfl ?_); refine box_event rfl (N := 7) rfl (cs := #[.string (⟨#[]⟩ : ByteArray), .string (⟨#[]⟩ : ByteArray), .int .i64 0]) (t := 63) zrun ?_; intro gb368 hg w40 hbox hb; have BK368 := am (hbox); have GW368 := zge hg (zb2 HB.out GE355.out GE366.out); have GE368 := zge hg (zb2 HB.out GE355.out GE366.out); obtain ⟨NB355_368, NB368_355⟩ := zne hg BK355; obtain ⟨NB366_368, NB368_366⟩ := zne hg BK366; replace HO_3 := am (Kd.R_below (rx HO_3.out) hb); replace HO_367002 := am (Kd.R_below (rx HO_367002.out) hb); replace BK355 := zk hb BK355; replace BK366 := zk hb BK366; replace HB := zs2 hb HB GE355 GE366; clear hb hbox hg; obtain ⟨hnb41, hnc41⟩ := zn2 NB368_355; obtain ⟨hnb42, hnc42⟩ := zn2 NB368_366; obtain ⟨hcz43_0, hcz43_1, hcz43_2, hfz43_0, hfz43_1, hfz43_2⟩ := zc3 BK368.out))
           have n0_ : Aside0 (Kd.R k67 67 (((w40.setCell ⟨gb368, 0, none⟩ (.string ((rd_T63 l0_0 x20_1).f0))).setCell ⟨gb368, 1, none⟩ (.string ((rd_T63 l0_0 x20_1).f1))).setCell ⟨gb368, 2, none⟩ (.int .i64 ((rd_T63 l0_0 x20_1).f2))) w.heap.size (fun _ => True) u3 x3_1) := ⟨rx (Kd.R_mono (Kd.R_far (p := ⟨gb368, 2, none⟩) (Kd.R_far (p := ⟨gb368, 1, none⟩) (Kd.R_far (p := ⟨gb368, 0, none⟩) (Kd.R_types HO_3.out BK368.out (by decide)) (fun _ hk => hk.2) (.string ((rd_T63 l0_0 x20_1).f0))) (fun _ hk => hk.2) (.string ((rd_T63 l0_0 x20_1).f1))) (fun _ hk => hk.2) (.int .i64 ((rd_T63 l0_0 x20_1).f2))) (fun _ hk => trivial))⟩
           have n1_ : Aside0 (Kd.R (Kd.int .i64) 3 (((w40.setCell ⟨gb368, 0, none⟩ (.string ((rd_T63 l0_0 x20_1).f0))).setCell ⟨gb368, 1, none⟩ (.string ((rd_T63 l0_0 x20_1).f1))).setCell ⟨gb368, 2, none⟩ (.int .i64 ((rd_T63 l0_0 x20_1).f2))) w.heap.size (fun _ => True) (.slice Ao12 t361.length co12) t361) := ⟨rx (Kd.R_mono (Kd.R_far (p := ⟨gb368, 2, none⟩) (Kd.R_far (p := ⟨gb368, 1, none⟩) (Kd.R_far (p := ⟨gb368, 0, none⟩) (Kd.R_types HO_367002.out BK368.out (by decide)) (fun _ hk => hk.2) (.string ((rd_T63 l0_0 x20_1).f0))) (fun _ hk => hk.2) (.string ((rd_T63 l0_0 x20_1).f1))) (fun _ hk => hk.2) (.int .i64 ((rd_T63 l0_0 x20_1).f2))) (fun _ hk => trivial))⟩
           have n2_ : Aside0 ((((w40.setCell ⟨gb368, 0, none⟩ (.string ((rd_T63 l0_0 x20_1).f0))).setCell ⟨gb368, 1, none⟩ (.string ((rd_T63 l0_0 x20_1).f1))).setCell ⟨gb368, 2, none⟩ (.int .i64 ((rd_T63 l0_0 x20_1).f2))).heap[gb355]? = some (.cells #[.slice (some ad367) l0_0.length c0_0] 30 (0, 0))) := ⟨zf1 BK355.out NB355_368.out⟩
           have n3_ : Aside0 ((((w40.setCell ⟨gb368, 0, none⟩ (.string ((rd_T63 l0_0 x20_1).f0))).setCell ⟨gb368, 1, none⟩ (.string ((rd_T63 l0_0 x20_1).f1))).setCell ⟨gb368, 2, none⟩ (.int .i64 ((rd_T63 l0_0 x20_1).f2))).heap[gb366]? = some (.cells #[.int .i64 t359, .int .i64 t360, .slice Ao12 t361.length co12, .string t364] 52 (0, 0))) := ⟨zf1 BK366.out NB366_368.out⟩
           have n4_ : Aside0 ((((w40.setCell ⟨gb368, 0, none⟩ (.string ((rd_T63 l0_0 x20_1).f0))).setCell ⟨gb368, 1, none⟩ (.string ((rd_T63 l0_0 x20_1).f1))).setCell ⟨gb368, 2, none⟩ (.int .i64 ((rd_T63 l0_0 x20_1).f2))).heap[gb368]? = some (.cells #[.string ((rd_T63 l0_0 x20_1).f0), .string ((rd_T63 l0_0 x20_1).f1), .int .i64 ((rd_T63 l0_0 x20_1).f2)] 63 (0, 0))) := ⟨by (with_reducible repeat (first | refine blk_drewN ?_ _ | refine blk_drew ?_ | refine blk_alloc ?_ _)); refine blk_put (cs := #[.string ((rd_T63 l0_0 x20_1).f0), .string ((rd_T63 l0_0 x20_1).f1), .int .i64 0]) ?_ 2 _ rfl; (with_reducible repeat (first | refine blk_drewN ?_ _ | refine blk_drew ?_ | refine blk_alloc ?_ _)); refine blk_put (cs := #[.string ((rd_T63 l0_0 x20_1).f0), .string (⟨#[]⟩ : ByteArray), .int .i64 0]) ?_ 1 _ rfl; (with_reducible repeat (first | refine blk_drewN ?_ _ | refine blk_drew ?_ | refine blk_alloc ?_ _)); refine blk_put (cs := #[.string (⟨#[]⟩ : ByteArray), .string (⟨#[]⟩ : ByteArray), .int .i64 0]) ?_ 0 _ rfl; (with_reducible repeat (first | refine blk_drewN ?_ _ | refine blk_drew ?_ | refine blk_alloc ?_ _)); exact BK368.out⟩
           have n5_ : Aside0 (Below w.heap.size w (((w40.setCell ⟨gb368, 0, none⟩ (.string ((rd_T63 l0_0 x20_1).f0))).setCell ⟨gb368, 1, none⟩ (.string ((rd_T63 l0_0 x20_1).f1))).setCell ⟨gb368, 2, none⟩ (.int .i64 ((rd_T63 l0_0 x20_1).f2)))) := ⟨zb3 HB.out GE355.out GE366.out GE368.out⟩
           generalize (((w40.setCell ⟨gb368, 0, none⟩ (.string ((rd_T63 l0_0 x20_1).f0))).setCell ⟨gb368, 1, none⟩ (.string ((rd_T63 l0_0 x20_1).f1))).setCell ⟨gb368, 2, none⟩ (.int .i64 ((rd_T63 l0_0 x20_1).f2))) = w44 at n0_ n1_ n2_ n3_ n4_ n5_ ⊢
           have HO_3 := n0_
           have HO_367002 := n1_
           have BK355 := n2_
           have BK366 := n3_
           have BK368 := n4_
           have HB := n5_
           clear n0_ n1_ n2_ n3_ n4_ n5_
           replace HO_3 := am (Kd.R_drew HO_3.out)
           replace HO_367002 := am (Kd.R_drew HO_367002.out)
           replace BK355 := am (blk_drew BK355.out)
           replace BK366 := am (blk_drew BK366.out)
           replace BK368 := am (blk_drew BK368.out)
           replace HB := am (below_drew1 HB.out)
           refine start_ (n := 15) (S := fun w' => w'.cell? ⟨gb368, 0, none⟩ = some (.string ((rd_T63 l0_0 x20_1).f0)) ∧ w'.cell? ⟨gb368, 1, none⟩ = some (.string ((rd_T63 l0_0 x20_1).f1)) ∧ w'.cell? ⟨gb368, 2, none⟩ = some (.int .i64 ((rd_T63 l0_0 x20_1).f2)) ∧ w'.cell? ⟨gb366, 0, none⟩ = some (.int .i64 t359) ∧ w'.cell? ⟨gb366, 1, none⟩ = some (.int .i64 t360) ∧ w'.cell? ⟨gb366, 2, none⟩ = some (.slice Ao12 t361.length co12) ∧ w'.cell? ⟨gb366, 3, none⟩ = some (.string t364)) (ds := []) #[false, false, false, false, false, false, false, false, false, false, false, false, false, false, false] (by kernel_rfl) rfl rfl ⟨ct BK368.out 0, ct BK368.out 1, ct BK368.out 2, ct BK366.out 0, ct BK366.out 1, ct BK366.out 2, ct BK366.out 3⟩ (fun hHeld => ?_); refine with_tabW impl_ShedActs.tab8 impl_ShedActs.bits8 (fun HT_ HW_ => ?_)
           generalize w44.drew = w45 at HO_3 HO_367002 BK355 BK366 BK368 HB hHeld ⊢
           refine zpu 0 24 #[true, false, false, false, false, false, false, false, false, false, false, false, false, false, false] HT_ ?_
           refine ztk7 1 25 #[true, true, false, false, false, false, false, false, false, false, false, false, false, false, false] HT_ HW_ hHeld ?_
           refine zpu 2 26 #[true, true, true, false, false, false, false, false, false, false, false, false, false, false, false] HT_ ?_
           refine zpu 3 27 #[true, true, true, true, false, false, false, false, false, false, false, false, false, false, false] HT_ ?_
           refine ztk7 4 28 #[true, true, true, true, true, false, false, false, false, false, false, false, false, false, false] HT_ HW_ hHeld ?_
           refine zon 5 #[true, true, true, true, true, true, false, false, false, false, false, false, false, false, false] HT_ (fun K hK => ?_)
           refine goes_ Tryz.func32 (by kernel_rfl) rfl #[.agg #[.string ((rd_T63 l0_0 x20_1).f0), .string ((rd_T63 l0_0 x20_1).f1), .int .i64 ((rd_T63 l0_0 x20_1).f2)]] (by rfl) rfl rfl zr ?_
           with_reducible refine (impl_isSnap.calls k1 ((rd_T63 l0_0 x20_1).f0) ((rd_T63 l0_0 x20_1).f1) ((rd_T63 l0_0 x20_1).f2) true _ A27.out ?laid).mono ?_; (case laid => exact LaidW.later HLW.out (zb3 HB.out GE355.out GE366.out GE368.out))
           rintro e w46 ⟨rfl, hb⟩
           refine ⟨_, rfl, ?_⟩
           replace HO_3 := am (Kd.R_below (rx HO_3.out) hb)
           replace HO_367002 := am (Kd.R_below (rx HO_367002.out) hb)
           replace BK355 := zk hb BK355
           replace BK366 := zk hb BK366
           replace BK368 := zk hb BK368
           replace HB := zs3 hb HB GE355 GE366 GE368
           refine hK.out _ _ ⟨ct BK368.out 0, ct BK368.out 1, ct BK368.out 2, ct BK366.out 0, ct BK366.out 1, ct BK366.out 2, ct BK366.out 3⟩ (fun hHeld => ?_)
           clear hK K
           refine znm 29 ?_
           refine zpu 6 30 #[true, true, true, true, true, true, true, false, false, false, false, false, false, false, false] HT_ ?_
           refine zpu 7 31 #[true, true, true, true, true, true, true, true, false, false, false, false, false, false, false] HT_ ?_
           refine zpu 9 33 #[true, true, true, true, true, true, true, true, false, true, false, false, false, false, false] HT_ ?_
           refine ztk7 8 32 #[true, true, true, true, true, true, true, true, true, true, false, false, false, false, false] HT_ HW_ hHeld ?_
           refine ztk7 10 34 #[true, true, true, true, true, true, true, true, true, true, true, false, false, false, false] HT_ HW_ hHeld ?_
           refine zon 11 #[true, true, true, true, true, true, true, true, true, true, true, true, false, false, false] HT_ (fun K hK => ?_)
           refine goes_ Tryz.func33 (by kernel_rfl) rfl #[.int .i64 t359] (by rfl) rfl rfl zr ?_
           with_reducible refine (impl_SnapName.calls t359 t373 _ A29.out ?laid).mono ?_; (case laid => exact LaidW.later HLW.out (zb3 HB.out GE355.out GE366.out GE368.out))
           rintro e w47 ⟨rfl, hb⟩
           refine ⟨_, rfl, ?_⟩
           replace HO_3 := am (Kd.R_below (rx HO_3.out) hb)
           replace HO_367002 := am (Kd.R_below (rx HO_367002.out) hb)
           replace BK355 := zk hb BK355
           replace BK366 := zk hb BK366
           replace BK368 := zk hb BK368
           replace HB := zs3 hb HB GE355 GE366 GE368
           refine hK.out _ _ ⟨ct BK368.out 0, ct BK368.out 1, ct BK368.out 2, ct BK366.out 0, ct BK366.out 1, ct BK366.out 2, ct BK366.out 3⟩ (fun hHeld => ?_)
           clear hK K
           refine znm 35 ?_
           refine zpu 12 36 #[true, true, true, true, true, true, true, true, true, true, true, true, true, false, false] HT_ ?_
           refine zpu 13 37 #[true, true, true, true, true, true, true, true, true, true, true, true, true, true, false] HT_ ?_
           refine zpu 14 38 #[true, true, true, true, true, true, true, true, true, true, true, true, true, true, true] HT_ ?_
           refine zdn HT_ ?_
           obtain ⟨hcz48_0, hcz48_1, hcz48_2, hfz48_0, hfz48_1, hfz48_2⟩ := zc3 BK368.out
           try go_wp2_with (first | ((with_reducible refine gate_builtin (b := .append) (xs := #[.tmp 39, .tmp 43]) rfl ?_); at_builtin; refine Kd.R_append k67 (w0 := w) w.heap.size rfl (.tmp 39) (.tmp 43) 26 67 (.agg #[(.int .i64 0), (.string ⟨#[]⟩), (.string ⟨#[]⟩), (.string ⟨#[]⟩)]) 56 rfl Tryz.underlying26 info67 rfl (by decide) (by omega) u3 x3_1 (⟨4, (rd_T63 l0_0 x20_1).f0, (⟨#[]⟩ : ByteArray), (⟨#[]⟩ : ByteArray)⟩ : S67) [.int .i64 4, .string ((rd_T63 l0_0 x20_1).f0), .string (⟨#[]⟩ : ByteArray), .string (⟨#[]⟩ : ByteArray)] (fun _ => True) (fun _ => False) rfl rfl ?aP (fun _ hk => hk.elim) ?aF ?aO ?aB ?aS ?aL ?_; (case aP => exact k67_mkM _ _ _ (⟨4, (rd_T63 l0_0 x20_1).f0, (⟨#[]⟩ : ByteArray), (⟨#[]⟩ : ByteArray)⟩ : S67)); (case aB => exact (zb3 HB.out GE355.out GE366.out GE368.out)); (case aF => exact (fun _ _ => trivial)); (case aO => exact (rx HO_3.out)); (case aS => exact (below_size (zb3 HB.out GE355.out GE366.out GE368.out))); (case aL => have := LMc39.out; omega); intro v375 w49 ho hb hg hat; rw [← Ny374.out] at ho; have HO376 := am (ho); replace HO_367002 := am (Kd.R_over' (rx HO_367002.out) (Kd.R_typed (rx HO_3.out)) (by decide) hg); replace BK355 := am (blk_grown (g := gb355) (o := .cells #[.slice (some ad367) l0_0.length c0_0] 30 (0, 0)) (kx BK355.out) hg (Kd.R_ne HO_3.out BK355.out (by decide))); replace BK366 := am (blk_grown (g := gb366) (o := .cells #[.int .i64 t359, .int .i64 t360, .slice Ao12 t361.length co12, .string t364] 52 (0, 0)) (kx BK366.out) hg (Kd.R_ne HO_3.out BK366.out (by decide))); replace BK368 := am (blk_grown (g := gb368) (o := .cells #[.string ((rd_T63 l0_0 x20_1).f0), .string ((rd_T63 l0_0 x20_1).f1), .int .i64 ((rd_T63 l0_0 x20_1).f2)] 63 (0, 0)) (kx BK368.out) hg (Kd.R_ne HO_3.out BK368.out (by decide))); replace HB := am (hb); clear HO_3; clear ho hb hg hat))
           go_roundg k1
           case measure => have := HK1.out; omega
           case rel => exact ⟨(y374), (wrap64 (x20_1 + 1)), (by first | rfl | (simp; done) | (simp [*]; done)), H', ⟨by have := HK1.out; omega⟩, ⟨rx HO376.out⟩, ⟨rx HO_367002.out⟩, ⟨kx BK355.out⟩, ⟨kx BK366.out⟩, ⟨zb3 HB.out GE355.out GE366.out GE368.out⟩⟩
          ·rw [if_neg c39] at H
           exact absurd H (by simp)
        ·replace c28 := Bool.eq_false_iff.mpr c28
         subst c28
         have H1 : (impl_ShedActs.l0 k1 x3_1 l0_0 (l0_0.length : Int) (wrap64 (x20_1 + 1)) t359 t360 t361 t364) = some r := by rw [if_neg (show ¬ (false = true) by decide)] at H; exact H
         clear H
         have H := H1
         clear H1
         have H' := Aside0.mk H
         clear H
         have p367 : 0 ≤ (x20_1 : Int) := of_decide_eq_true (by first | (with_reducible assumption) | assumption)
         have q367 : x20_1 < (l0_0.length : Int) := of_decide_eq_true (by first | (with_reducible assumption) | assumption)
         obtain ⟨ad367, e367, hx367_0, hx367_1, hx367_2⟩ := at_T63 HR0_0.out x20_1 p367 q367
         cases e367
         replace hx367_0 := (HB.out.cell (World.block_lt_of_cell? w _ hx367_0)).trans hx367_0
         replace hx367_1 := (HB.out.cell (World.block_lt_of_cell? w _ hx367_1)).trans hx367_1
         replace hx367_2 := (HB.out.cell (World.block_lt_of_cell? w _ hx367_2)).trans hx367_2
         replace p367 := eq_true p367
         replace q367 := eq_true q367
         try go_wp2_with (first | ((with_reducible refine gate_dst (N := 7) rfl ?_); refine box_event rfl (N := 7) rfl (cs := #[.string (⟨#[]⟩ : ByteArray), .string (⟨#[]⟩ : ByteArray), .int .i64 0]) (t := 63) zrun ?_; intro gb368 hg w50 hbox hb; have BK368 := am (hbox); have GW368 := zge hg (zb2 HB.out GE355.out GE366.out); have GE368 := zge hg (zb2 HB.out GE355.out GE366.out); obtain ⟨NB355_368, NB368_355⟩ := zne hg BK355; obtain ⟨NB366_368, NB368_366⟩ := zne hg BK366; replace HO_3 := am (Kd.R_below (rx HO_3.out) hb); replace HO_367002 := am (Kd.R_below (rx HO_367002.out) hb); replace BK355 := zk hb BK355; replace BK366 := zk hb BK366; replace HB := zs2 hb HB GE355 GE366; clear hb hbox hg; obtain ⟨hnb51, hnc51⟩ := zn2 NB368_355; obtain ⟨hnb52, hnc52⟩ := zn2 NB368_366; obtain ⟨hcz53_0, hcz53_1, hcz53_2, hfz53_0, hfz53_1, hfz53_2⟩ := zc3 BK368.out))
         have n0_ : Aside0 (Kd.R k67 67 (((w50.setCell ⟨gb368, 0, none⟩ (.string ((rd_T63 l0_0 x20_1).f0))).setCell ⟨gb368, 1, none⟩ (.string ((rd_T63 l0_0 x20_1).f1))).setCell ⟨gb368, 2, none⟩ (.int .i64 ((rd_T63 l0_0 x20_1).f2))) w.heap.size (fun _ => True) u3 x3_1) := ⟨rx (Kd.R_mono (Kd.R_far (p := ⟨gb368, 2, none⟩) (Kd.R_far (p := ⟨gb368, 1, none⟩) (Kd.R_far (p := ⟨gb368, 0, none⟩) (Kd.R_types HO_3.out BK368.out (by decide)) (fun _ hk => hk.2) (.string ((rd_T63 l0_0 x20_1).f0))) (fun _ hk => hk.2) (.string ((rd_T63 l0_0 x20_1).f1))) (fun _ hk => hk.2) (.int .i64 ((rd_T63 l0_0 x20_1).f2))) (fun _ hk => trivial))⟩
         have n1_ : Aside0 (Kd.R (Kd.int .i64) 3 (((w50.setCell ⟨gb368, 0, none⟩ (.string ((rd_T63 l0_0 x20_1).f0))).setCell ⟨gb368, 1, none⟩ (.string ((rd_T63 l0_0 x20_1).f1))).setCell ⟨gb368, 2, none⟩ (.int .i64 ((rd_T63 l0_0 x20_1).f2))) w.heap.size (fun _ => True) (.slice Ao12 t361.length co12) t361) := ⟨rx (Kd.R_mono (Kd.R_far (p := ⟨gb368, 2, none⟩) (Kd.R_far (p := ⟨gb368, 1, none⟩) (Kd.R_far (p := ⟨gb368, 0, none⟩) (Kd.R_types HO_367002.out BK368.out (by decide)) (fun _ hk => hk.2) (.string ((rd_T63 l0_0 x20_1).f0))) (fun _ hk => hk.2) (.string ((rd_T63 l0_0 x20_1).f1))) (fun _ hk => hk.2) (.int .i64 ((rd_T63 l0_0 x20_1).f2))) (fun _ hk => trivial))⟩
         have n2_ : Aside0 ((((w50.setCell ⟨gb368, 0, none⟩ (.string ((rd_T63 l0_0 x20_1).f0))).setCell ⟨gb368, 1, none⟩ (.string ((rd_T63 l0_0 x20_1).f1))).setCell ⟨gb368, 2, none⟩ (.int .i64 ((rd_T63 l0_0 x20_1).f2))).heap[gb355]? = some (.cells #[.slice (some ad367) l0_0.length c0_0] 30 (0, 0))) := ⟨zf1 BK355.out NB355_368.out⟩
         have n3_ : Aside0 ((((w50.setCell ⟨gb368, 0, none⟩ (.string ((rd_T63 l0_0 x20_1).f0))).setCell ⟨gb368, 1, none⟩ (.string ((rd_T63 l0_0 x20_1).f1))).setCell ⟨gb368, 2, none⟩ (.int .i64 ((rd_T63 l0_0 x20_1).f2))).heap[gb366]? = some (.cells #[.int .i64 t359, .int .i64 t360, .slice Ao12 t361.length co12, .string t364] 52 (0, 0))) := ⟨zf1 BK366.out NB366_368.out⟩
         have n4_ : Aside0 ((((w50.setCell ⟨gb368, 0, none⟩ (.string ((rd_T63 l0_0 x20_1).f0))).setCell ⟨gb368, 1, none⟩ (.string ((rd_T63 l0_0 x20_1).f1))).setCell ⟨gb368, 2, none⟩ (.int .i64 ((rd_T63 l0_0 x20_1).f2))).heap[gb368]? = some (.cells #[.string ((rd_T63 l0_0 x20_1).f0), .string ((rd_T63 l0_0 x20_1).f1), .int .i64 ((rd_T63 l0_0 x20_1).f2)] 63 (0, 0))) := ⟨by (with_reducible repeat (first | refine blk_drewN ?_ _ | refine blk_drew ?_ | refine blk_alloc ?_ _)); refine blk_put (cs := #[.string ((rd_T63 l0_0 x20_1).f0), .string ((rd_T63 l0_0 x20_1).f1), .int .i64 0]) ?_ 2 _ rfl; (with_reducible repeat (first | refine blk_drewN ?_ _ | refine blk_drew ?_ | refine blk_alloc ?_ _)); refine blk_put (cs := #[.string ((rd_T63 l0_0 x20_1).f0), .string (⟨#[]⟩ : ByteArray), .int .i64 0]) ?_ 1 _ rfl; (with_reducible repeat (first | refine blk_drewN ?_ _ | refine blk_drew ?_ | refine blk_alloc ?_ _)); refine blk_put (cs := #[.string (⟨#[]⟩ : ByteArray), .string (⟨#[]⟩ : ByteArray), .int .i64 0]) ?_ 0 _ rfl; (with_reducible repeat (first | refine blk_drewN ?_ _ | refine blk_drew ?_ | refine blk_alloc ?_ _)); exact BK368.out⟩
         have n5_ : Aside0 (Below w.heap.size w (((w50.setCell ⟨gb368, 0, none⟩ (.string ((rd_T63 l0_0 x20_1).f0))).setCell ⟨gb368, 1, none⟩ (.string ((rd_T63 l0_0 x20_1).f1))).setCell ⟨gb368, 2, none⟩ (.int .i64 ((rd_T63 l0_0 x20_1).f2)))) := ⟨zb3 HB.out GE355.out GE366.out GE368.out⟩
         generalize (((w50.setCell ⟨gb368, 0, none⟩ (.string ((rd_T63 l0_0 x20_1).f0))).setCell ⟨gb368, 1, none⟩ (.string ((rd_T63 l0_0 x20_1).f1))).setCell ⟨gb368, 2, none⟩ (.int .i64 ((rd_T63 l0_0 x20_1).f2))) = w54 at n0_ n1_ n2_ n3_ n4_ n5_ ⊢
         have HO_3 := n0_
         have HO_367002 := n1_
         have BK355 := n2_
         have BK366 := n3_
         have BK368 := n4_
         have HB := n5_
         clear n0_ n1_ n2_ n3_ n4_ n5_
         replace HO_3 := am (Kd.R_drew HO_3.out)
         replace HO_367002 := am (Kd.R_drew HO_367002.out)
         replace BK355 := am (blk_drew BK355.out)
         replace BK366 := am (blk_drew BK366.out)
         replace BK368 := am (blk_drew BK368.out)
         replace HB := am (below_drew1 HB.out)
         refine start_ (n := 15) (S := fun w' => w'.cell? ⟨gb368, 0, none⟩ = some (.string ((rd_T63 l0_0 x20_1).f0)) ∧ w'.cell? ⟨gb368, 1, none⟩ = some (.string ((rd_T63 l0_0 x20_1).f1)) ∧ w'.cell? ⟨gb368, 2, none⟩ = some (.int .i64 ((rd_T63 l0_0 x20_1).f2))) (ds := []) #[false, false, false, false, false, false, false, false, false, false, false, false, false, false, false] (by kernel_rfl) rfl rfl ⟨ct BK368.out 0, ct BK368.out 1, ct BK368.out 2⟩ (fun hHeld => ?_); refine with_tabW impl_ShedActs.tab8 impl_ShedActs.bits8 (fun HT_ HW_ => ?_)
         generalize w54.drew = w55 at HO_3 HO_367002 BK355 BK366 BK368 HB hHeld ⊢
         refine zpu 0 24 #[true, false, false, false, false, false, false, false, false, false, false, false, false, false, false] HT_ ?_
         refine ztk3 1 25 #[true, true, false, false, false, false, false, false, false, false, false, false, false, false, false] HT_ HW_ hHeld ?_
         refine zpu 2 26 #[true, true, true, false, false, false, false, false, false, false, false, false, false, false, false] HT_ ?_
         refine zpu 3 27 #[true, true, true, true, false, false, false, false, false, false, false, false, false, false, false] HT_ ?_
         refine ztk3 4 28 #[true, true, true, true, true, false, false, false, false, false, false, false, false, false, false] HT_ HW_ hHeld ?_
         refine zon 5 #[true, true, true, true, true, true, false, false, false, false, false, false, false, false, false] HT_ (fun K hK => ?_)
         refine goes_ Tryz.func32 (by kernel_rfl) rfl #[.agg #[.string ((rd_T63 l0_0 x20_1).f0), .string ((rd_T63 l0_0 x20_1).f1), .int .i64 ((rd_T63 l0_0 x20_1).f2)]] (by rfl) rfl rfl zr ?_
         with_reducible refine (impl_isSnap.calls k1 ((rd_T63 l0_0 x20_1).f0) ((rd_T63 l0_0 x20_1).f1) ((rd_T63 l0_0 x20_1).f2) false _ A27.out ?laid).mono ?_; (case laid => exact LaidW.later HLW.out (zb3 HB.out GE355.out GE366.out GE368.out))
         rintro e w56 ⟨rfl, hb⟩
         refine ⟨_, rfl, ?_⟩
         replace HO_3 := am (Kd.R_below (rx HO_3.out) hb)
         replace HO_367002 := am (Kd.R_below (rx HO_367002.out) hb)
         replace BK355 := zk hb BK355
         replace BK366 := zk hb BK366
         replace BK368 := zk hb BK368
         replace HB := zs3 hb HB GE355 GE366 GE368
         refine hK.out _ _ ⟨ct BK368.out 0, ct BK368.out 1, ct BK368.out 2⟩ (fun hHeld => ?_)
         clear hK K
         refine znm 29 ?_
         refine zpu 6 30 #[true, true, true, true, true, true, true, false, false, false, false, false, false, false, false] HT_ ?_
         refine pure_ (i := 7) (N := some 31) (v := undef) (a' := ?_) #[true, true, true, true, true, true, true, true, false, false, false, false, false, false, false] rfl rfl (any_of HT_.out (by kernel_rfl)) (fun _ _ _ h => h) (Or.inr ⟨by rfl, rfl⟩) ?_ ?_
         rotate_left
         ·simp only [Act.put, List.setIfInBounds_toArray, List.set_cons_zero, List.set_cons_succ, i64_w, i32_w]
          rfl
         refine pure_ (i := 8) (N := some 32) (v := undef) (a' := ?_) #[true, true, true, true, true, true, true, true, true, false, false, false, false, false, false] rfl rfl (any_of HT_.out (by kernel_rfl)) (fun _ _ _ h => h) (Or.inr ⟨by rfl, rfl⟩) ?_ ?_
         rotate_left
         ·simp only [Act.put, List.setIfInBounds_toArray, List.set_cons_zero, List.set_cons_succ, i64_w, i32_w]
          rfl
         refine pure_ (i := 9) (N := some 33) (v := undef) (a' := ?_) #[true, true, true, true, true, true, true, true, true, true, false, false, false, false, false] rfl rfl (any_of HT_.out (by kernel_rfl)) (fun _ _ _ h => h) (Or.inr ⟨by rfl, rfl⟩) ?_ ?_
         rotate_left
         ·simp only [Act.put, List.setIfInBounds_toArray, List.set_cons_zero, List.set_cons_succ, i64_w, i32_w]
          rfl
         refine pure_ (i := 10) (N := some 34) (v := undef) (a' := ?_) #[true, true, true, true, true, true, true, true, true, true, true, false, false, false, false] rfl rfl (any_of HT_.out (by kernel_rfl)) (fun _ _ _ h => h) (Or.inr ⟨by rfl, rfl⟩) ?_ ?_
         rotate_left
         ·simp only [Act.put, List.setIfInBounds_toArray, List.set_cons_zero, List.set_cons_succ, i64_w, i32_w]
          rfl
         refine pure_ (i := 11) (N := some 35) (v := undef) (a' := ?_) #[true, true, true, true, true, true, true, true, true, true, true, true, false, false, false] rfl rfl (any_of HT_.out (by kernel_rfl)) (fun _ _ _ h => h) (Or.inr ⟨by rfl, rfl⟩) ?_ ?_
         rotate_left
         ·simp only [Act.put, List.setIfInBounds_toArray, List.set_cons_zero, List.set_cons_succ, i64_w, i32_w]
          rfl
         refine pure_ (i := 12) (N := some 36) (v := undef) (a' := ?_) #[true, true, true, true, true, true, true, true, true, true, true, true, true, false, false] rfl rfl (any_of HT_.out (by kernel_rfl)) (fun _ _ _ h => h) (Or.inr ⟨by rfl, rfl⟩) ?_ ?_
         rotate_left
         ·simp only [Act.put, List.setIfInBounds_toArray, List.set_cons_zero, List.set_cons_succ, i64_w, i32_w]
          rfl
         refine zpu 13 37 #[true, true, true, true, true, true, true, true, true, true, true, true, true, true, false] HT_ ?_
         refine zpu 14 38 #[true, true, true, true, true, true, true, true, true, true, true, true, true, true, true] HT_ ?_
         refine zdn HT_ ?_
         try go_wp2
         go_roundg k1
         case measure => have := HK1.out; omega
         case rel => exact ⟨(x3_1), (wrap64 (x20_1 + 1)), (by first | rfl | (simp; done) | (simp [*]; done)), H', ⟨by have := HK1.out; omega⟩, ⟨rx HO_3.out⟩, ⟨rx HO_367002.out⟩, ⟨kx BK355.out⟩, ⟨kx BK366.out⟩, ⟨zb3 HB.out GE355.out GE366.out GE368.out⟩⟩
      ·rw [if_neg c16] at H
       exact absurd H (by simp)
     ·rw [if_neg c15] at H
      exact absurd H (by simp)
    ·rw [if_neg c14] at H
     have c14b0 : decide (x20_1 < (l0_0.length : Int)) = false := decide_eq_false c14
     have c14b1 : decide ((l0_0.length : Int) ≤ x20_1) = true := decide_eq_true (by omega)
     clear c14
     obtain rfl := Option.some.inj H
     go_wp2
     go_ret
     exact ⟨_, by first | rfl | (simp [errW_none, errW_some] <;> rfl) | (simp [*, errW_none, errW_some] <;> rfl), rx HO_3.out, zb2 HB.out GE355.out GE366.out⟩
 ·replace c3 := Bool.eq_false_iff.mpr c3
  subst c3
  have H1 : (some y356) = some r := by rw [if_neg (show ¬ (false = true) by decide)] at H; exact H
  clear H
  have H := H1
  clear H1
  obtain rfl := Option.some.inj H
  go_enter Tryz.func9, Tryz.ntmps9
  go_wp2_with (first | ((with_reducible refine gate_dst (N := 1) rfl ?_); refine box_event rfl (N := 1) rfl (cs := #[.slice A0_0 l0_0.length c0_0]) (t := 30) zrun ?_; intro gb355 hg w57 hbox hb; have BK355 := am (hbox); have GW355 := zge hg (zb0 HB.out); have GE355 := zge hg (zb0 HB.out); replace HB := zs0 hb HB; clear hb hbox hg) | ((with_reducible refine gate_dst (N := 8) rfl ?_); refine Kd.R_lit k67 _ 67 ?hg (N := 8) ?hd (xs := ([] : List (S67))) (inner := []) (ok := fun _ => True) (okp := fun _ => True) ?hr ?hp (fun _ hk => hk) trivial (Below.refl _ _) (Nat.le_refl _) (by simp) ?_; (case hd => rfl); (case hg => rfl); (case hr => first | (go_simp; done) | (go_simp; rfl)); (case hp => exact (Reps.none _ _)); intro v357 w58 ho59 hb hg_ hnew_; clear hg_ hnew_; (first | rw [← Ny356.out] at ho59 | (simp only [Int.reduceToNat] at ho59; rw [← Ny356.out] at ho59)); have HO358 := am (Kd.R_lower ho59 (below_size (zb1 HB.out GE355.out))); replace BK355 := zk hb BK355; replace HB := zs1 hb HB GE355; clear hb ho59; obtain ⟨hcz60_0, hfz60_0⟩ := zc1 BK355.out) | ((with_reducible refine gate_callee (f := 31) rfl ?_); refine goesL_ (some 11) rfl rfl Tryz.func31 (by kernel_rfl) rfl #[.agg #[.slice A0_0 l0_0.length c0_0]] rfl zr ?_; (with_reducible refine (impl_NewestSnap.calls k _ _ l0_0 t359 t360 t361 t364 false _ ?side1 ?side2 A2.out ?laid).mono ?_); (case laid => exact LaidW.later HLW.out (zb1 HB.out GE355.out)); (case side1 => repeat (first | exact (Kd.C_below HR0_0.out HB.out) | (with_reducible refine Kd.C_alloc ?_ _) | (with_reducible refine Kd.C_drewN ?_ _) | (with_reducible refine Kd.C_drew ?_))); (case side2 => exact HC0_0.out); rintro e w61 ⟨v362, rfl, ho0, hb⟩; refine ⟨_, rfl, ?_⟩; have HO363 := am (Kd.R_lower ho0 (below_size (zb1 HB.out GE355.out))); replace HO358 := am (Kd.R_below (rx HO358.out) hb); replace BK355 := zk hb BK355; replace HB := zs1 hb HB GE355; clear hb ho0) | ((with_reducible refine gate_dst (N := 4) rfl ?_); refine box_event rfl (N := 4) rfl (cs := #[.int .i64 0, .int .i64 0, .slice none 0 0, .string (⟨#[]⟩ : ByteArray)]) (t := 52) zrun ?_; intro gb366 hg w62 hbox hb; have BK366 := am (hbox); have GW366 := zge hg (zb1 HB.out GE355.out); have GE366 := zge hg (zb1 HB.out GE355.out); obtain ⟨NB355_366, NB366_355⟩ := zne hg BK355; replace HO358 := am (Kd.R_below (rx HO358.out) hb); replace HO363 := am (Kd.R_below (rx HO363.out) hb); replace BK355 := zk hb BK355; replace HB := zs1 hb HB GE355; clear hb hbox hg; obtain ⟨hnb63, hnc63⟩ := zn2 NB366_355; obtain ⟨hcz64_0, hcz64_1, hcz64_2, hcz64_3, hfz64_0, hfz64_1, hfz64_2, hfz64_3⟩ := zc4 BK366.out; obtain ⟨Ao65, co65, eo65⟩ := Kd.R_slice HO363.out; subst eo65))
  go_ret
  exact ⟨_, by first | rfl | (simp [errW_none, errW_some] <;> rfl) | (simp [*, errW_none, errW_some] <;> rfl), rx (Kd.R_mono (Kd.R_far (p := ⟨gb366, 3, none⟩) (Kd.R_far (p := ⟨gb366, 2, none⟩) (Kd.R_far (p := ⟨gb366, 1, none⟩) (Kd.R_far (p := ⟨gb366, 0, none⟩) (Kd.R_types HO358.out BK366.out (by decide)) (fun _ hk => hk.2) (.int .i64 t359)) (fun _ hk => hk.2) (.int .i64 t360)) (fun _ hk => hk.2) (.slice Ao65 t361.length co65)) (fun _ hk => hk.2) (.string t364)) (fun _ hk => trivial)), zb2 HB.out GE355.out GE366.out⟩

end Go.Proofs.YtogifkjkbfdocaaGreatDoor.QFnExactShedActs
