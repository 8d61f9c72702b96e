/- Written by the kit's print.py, called by our own print2.sh with one import more; not by print.sh. -/
import Derived.Test.YtogifkjkbfdocaaGreatDoorQFnExactShedActsx0
import Derived.Test.YtogifkjkbfdocaaGreatDoorQFnExactShedActsx17
import Derived.Test.YtogifkjkbfdocaaGreatDoorQFnExactShedActsx1
import Derived.Test.YtogifkjkbfdocaaGreatDoorQFnExactShedActsx9
import Derived.Test.YtogifkjkbfdocaaGreatDoorQFnExactShedActsx15
import Derived.Test.YtogifkjkbfdocaaGreatDoorQFnExactShedActsx16
namespace Go.Proofs.YtogifkjkbfdocaaGreatDoor.QFnExactShedActs
open Go.RowKit Go.Proofs.YtogifkjkbfdocaaGreatDoorW.PrintWords Go.Proofs.YtogifkjkbfdocaaGreatDoorW.PrintLast Go.Proofs.YtogifkjkbfdocaaGreatDoorW.PrintMore
attribute [local go_sem] max2_int min2_int max_two min_two max_three min_three max_four min_four   -- for this text's walks alone
open Go.Proofs.YtogifkjkbfdocaaGreatDoor.Short
set_option linter.unusedVariables false
set_option linter.unusedSimpArgs false

/-! ### laws_heldActS: function 14 -/
def laws_heldActS.l0 : Nat → List (S67) → Int → Int → Option (Int)
 | 0, _, _, _ => none
 | k + 1, x0, x1, x5 => if x5 < (x0.length : Int) then (if 0 ≤ x5 then (if ((rd_T67 x0 x5).f0) = x1 then ((laws_markText.f k (wrap64 (x1 + 1))).bind fun t410 => (if ((rd_T67 x0 x5).f1).toList = t410.toList then ((laws_markText.f k (wrap64 ((wrap64 (x1 + 1)) + 1))).bind fun t412 => (if ((rd_T67 x0 x5).f2).toList = t412.toList then ((laws_markText.f k (wrap64 ((wrap64 ((wrap64 (x1 + 1)) + 1)) + 1))).bind fun t414 => (if ((rd_T67 x0 x5).f3).toList = t414.toList then (laws_heldActS.l0 k x0 (wrap64 ((wrap64 ((wrap64 ((wrap64 (x1 + 1)) + 1)) + 1)) + 1)) (wrap64 (x5 + 1))) else (some (-1)))) else (some (-1)))) else (some (-1)))) else (some (-1))) else (none)) else (some x1)
def laws_heldActS.f (k : Nat) (l0 : List (S67)) (a1 : Int) : Option (Int) := laws_heldActS.l0 k l0 a1 0
theorem laws_heldActS.mono_l : ∀ k, (∀ y0 y1 y2, LeO (laws_heldActS.l0 k y0 y1 y2) (laws_heldActS.l0 (k + 1) y0 y1 y2))
 | 0 => fun _ _ _ r h => by simp [laws_heldActS.l0] at h
 | k + 1 => by
  have ih0 := laws_heldActS.mono_l k
  ·intro y0 y1 y2
   unfold laws_heldActS.l0
   repeat' first
   | (with_reducible exact ih0 _ _ _)
   | (with_reducible exact laws_markText.mono _ _)
   | (with_reducible exact LeO.refl _)
   | (with_reducible exact LeO.none _)
   | (with_reducible refine LeO.ite ?_ ?_)
   | (with_reducible refine LeO.bind ?_ (fun _ => ?_))
   | exact ih0 _ _ _
   | exact laws_markText.mono _ _
   | exact LeO.none _
   | refine LeO.ite ?_ ?_
   | refine LeO.bind ?_ (fun _ => ?_)
theorem laws_heldActS.mono : ∀ a0 a1 k, LeO (laws_heldActS.f k a0 a1) (laws_heldActS.f (k + 1) a0 a1) := by
 intro a0 a1 k
 have ih0 := laws_heldActS.mono_l k
 unfold laws_heldActS.f
 repeat' first
   | (with_reducible exact ih0 _ _ _)
   | (with_reducible exact laws_markText.mono _ _)
   | (with_reducible exact LeO.refl _)
   | (with_reducible exact LeO.none _)
   | (with_reducible refine LeO.ite ?_ ?_)
   | (with_reducible refine LeO.bind ?_ (fun _ => ?_))
   | exact ih0 _ _ _
   | exact laws_markText.mono _ _
   | exact LeO.none _
   | refine LeO.ite ?_ ?_
   | refine LeO.bind ?_ (fun _ => ?_)
def laws_heldActS.T7 : Bool × List (List Nat × List Nat) := (true, [([], []), ([], []), ([0, 1], [0, 1]), ([2], [2]), ([3], [3]), ([], []), ([5], [5]), ([4, 6], [4, 6])])
def laws_heldActS.B7 : List Nat := [0, 0, 3, 7, 15, 0, 32, 127]
theorem laws_heldActS.tab7 : rtab .any (opsOf Tryz.f14 7) = laws_heldActS.T7 := by kernel_rfl
theorem laws_heldActS.bits7 : waitsOk laws_heldActS.T7.2 laws_heldActS.B7 = true := by kernel_rfl
def laws_heldActS.T10 : Bool × List (List Nat × List Nat) := (true, [([], []), ([], []), ([0, 1], [0, 1]), ([2], [2]), ([3], [3]), ([], []), ([5], [5]), ([4, 6], [4, 6])])
def laws_heldActS.B10 : List Nat := [0, 0, 3, 7, 15, 0, 32, 127]
theorem laws_heldActS.tab10 : rtab .any (opsOf Tryz.f14 10) = laws_heldActS.T10 := by kernel_rfl
theorem laws_heldActS.bits10 : waitsOk laws_heldActS.T10.2 laws_heldActS.B10 = true := by kernel_rfl
def laws_heldActS.T13 : Bool × List (List Nat × List Nat) := (true, [([], []), ([], []), ([0, 1], [0, 1]), ([2], [2]), ([3], [3]), ([], []), ([5], [5]), ([4, 6], [4, 6])])
def laws_heldActS.B13 : List Nat := [0, 0, 3, 7, 15, 0, 32, 127]
theorem laws_heldActS.tab13 : rtab .any (opsOf Tryz.f14 13) = laws_heldActS.T13 := by kernel_rfl
theorem laws_heldActS.bits13 : waitsOk laws_heldActS.T13.2 laws_heldActS.B13 = true := by kernel_rfl
set_option maxHeartbeats 8000000 in
set_option maxRecDepth 100000 in
theorem laws_heldActS.calls (k : Nat) (A0 : Option Addr) (c0 : Nat) (l0 : List (S67)) (a1 : Int) (r : Int) (w : World) (hr0 : Kd.C k67 w A0 l0.length l0) (hc0 : l0.length ≤ c0) (h : laws_heldActS.f k l0 a1 = some r) :
  Calls Tryz.prog 14 #[.slice A0 l0.length c0, .int .i64 a1] w fun e w' => e = .returned (.int .i64 r) ∧ Below w.heap.size w w' := by
 have HR0 := Aside0.mk hr0
 have HC0 := Aside0.mk hc0
 clear hr0 hc0
 have HB := Aside0.mk (Below.refl w.heap.size w)
 have H : (laws_heldActS.l0 k l0 a1 0) = some r := h
 clear h
 have H' := Aside0.mk H
 clear H
 go_enter Tryz.func14, Tryz.ntmps14
 go_wp2
 go_loopg [1, 5] k (fun kq v1 v5 w' => ∃ (x1_1 : Int) (x5_1 : Int), v1 = .int .i64 x1_1 ∧ v5 = .int .i64 x5_1 ∧ Aside0 (laws_heldActS.l0 kq l0 x1_1 x5_1 = some r) ∧ Aside0 (kq ≤ k) ∧ Aside0 (Below w.heap.size w w'))
 case atStart => exact ⟨(a1), (0), (by first | rfl | (simp; done) | (simp [*]; done)), (by first | rfl | (simp; done) | (simp [*]; done)), H', ⟨Nat.le_refl _⟩, ⟨zb0 HB.out⟩⟩
 case round =>
  clear H'
  obtain ⟨x1_1, x5_1, rfl, rfl, HA, HK1, HB⟩ := hrel
  cases gk with
  | zero => exact absurd HA.out (by simp [laws_heldActS.l0])
  | succ k1 =>
   have H := HA.out
   clear HA
   simp only [laws_heldActS.l0] at H
   by_cases c3 : x5_1 < (l0.length : Int)
   ·rw [if_pos c3] at H
    have c3b0 : decide (x5_1 < (l0.length : Int)) = true := decide_eq_true c3
    have c3b1 : decide ((l0.length : Int) ≤ x5_1) = false := decide_eq_false (by omega)
    clear c3
    by_cases c4 : 0 ≤ x5_1
    ·rw [if_pos c4] at H
     have c4b0 : decide (0 ≤ x5_1) = true := decide_eq_true c4
     clear c4
     by_cases c5 : ((rd_T67 l0 x5_1).f0) = x1_1
     ·rw [if_pos c5] at H
      have c5b0 : (((rd_T67 l0 x5_1).f0) == x1_1) = true := beq_iff_eq.mpr c5
      have c5b1 : (((rd_T67 l0 x5_1).f0) != x1_1) = false := bne_eq_false_iff_eq.mpr c5
      clear c5
      replace H := Option.bind_eq_some_iff.mp H
      obtain ⟨t410, A60, H⟩ := H
      try dsimp only at H
      have A6 := Aside0.mk A60
      clear A60
      by_cases c7 : ((rd_T67 l0 x5_1).f1).toList = t410.toList
      ·rw [if_pos c7] at H
       have c7b0 : (((rd_T67 l0 x5_1).f1).toList == t410.toList) = true := beq_iff_eq.mpr c7
       have c7b1 : (((rd_T67 l0 x5_1).f1).toList != t410.toList) = false := bne_eq_false_iff_eq.mpr c7
       clear c7
       replace H := Option.bind_eq_some_iff.mp H
       obtain ⟨t412, A80, H⟩ := H
       try dsimp only at H
       have A8 := Aside0.mk A80
       clear A80
       by_cases c9 : ((rd_T67 l0 x5_1).f2).toList = t412.toList
       ·rw [if_pos c9] at H
        have c9b0 : (((rd_T67 l0 x5_1).f2).toList == t412.toList) = true := beq_iff_eq.mpr c9
        have c9b1 : (((rd_T67 l0 x5_1).f2).toList != t412.toList) = false := bne_eq_false_iff_eq.mpr c9
        clear c9
        replace H := Option.bind_eq_some_iff.mp H
        obtain ⟨t414, A100, H⟩ := H
        try dsimp only at H
        have A10 := Aside0.mk A100
        clear A100
        by_cases c11 : ((rd_T67 l0 x5_1).f3).toList = t414.toList
        ·rw [if_pos c11] at H
         have c11b0 : (((rd_T67 l0 x5_1).f3).toList == t414.toList) = true := beq_iff_eq.mpr c11
         have c11b1 : (((rd_T67 l0 x5_1).f3).toList != t414.toList) = false := bne_eq_false_iff_eq.mpr c11
         clear c11
         have H' := Aside0.mk H
         clear H
         have p408 : 0 ≤ (x5_1 : Int) := of_decide_eq_true (by first | (with_reducible assumption) | assumption)
         have q408 : x5_1 < (l0.length : Int) := of_decide_eq_true (by first | (with_reducible assumption) | assumption)
         obtain ⟨ad408, e408, hx408_0, hx408_1, hx408_2, hx408_3⟩ := at_T67 HR0.out x5_1 p408 q408
         cases e408
         replace hx408_0 := (HB.out.cell (World.block_lt_of_cell? w _ hx408_0)).trans hx408_0
         replace hx408_1 := (HB.out.cell (World.block_lt_of_cell? w _ hx408_1)).trans hx408_1
         replace hx408_2 := (HB.out.cell (World.block_lt_of_cell? w _ hx408_2)).trans hx408_2
         replace hx408_3 := (HB.out.cell (World.block_lt_of_cell? w _ hx408_3)).trans hx408_3
         replace p408 := eq_true p408
         replace q408 := eq_true q408
         try go_wp2
         replace HB := am (below_drew1 HB.out)
         have p409 : 0 ≤ (x5_1 : Int) := of_decide_eq_true (by first | (with_reducible assumption) | assumption)
         have q409 : x5_1 < (l0.length : Int) := of_decide_eq_true (by first | (with_reducible assumption) | assumption)
         obtain ⟨ad409, e409, hx409_0, hx409_1, hx409_2, hx409_3⟩ := at_T67 HR0.out x5_1 p409 q409
         have hw409_3 := hx409_3
         have hw409_2 := hx409_2
         have hw409_1 := hx409_1
         have hw409_0 := hx409_0
         obtain rfl : ad408 = ad409 := (by injection e409)
         replace hx409_0 := (HB.out.cell (World.block_lt_of_cell? w _ hx409_0)).trans hx409_0
         replace hx409_1 := (HB.out.cell (World.block_lt_of_cell? w _ hx409_1)).trans hx409_1
         replace hx409_2 := (HB.out.cell (World.block_lt_of_cell? w _ hx409_2)).trans hx409_2
         replace hx409_3 := (HB.out.cell (World.block_lt_of_cell? w _ hx409_3)).trans hx409_3
         replace p409 := eq_true p409
         replace q409 := eq_true q409
         refine start_ (n := 8) (S := fun w' => w'.cell? (ad408.add ((x5_1).toNat * 4)) = some (.int .i64 ((rd_T67 l0 x5_1).f0)) ∧ w'.cell? ⟨(ad408.add ((x5_1).toNat * 4)).block, (ad408.add ((x5_1).toNat * 4)).off + 1, none⟩ = some (.string ((rd_T67 l0 x5_1).f1)) ∧ w'.cell? ⟨(ad408.add ((x5_1).toNat * 4)).block, (ad408.add ((x5_1).toNat * 4)).off + 2, none⟩ = some (.string ((rd_T67 l0 x5_1).f2)) ∧ w'.cell? ⟨(ad408.add ((x5_1).toNat * 4)).block, (ad408.add ((x5_1).toNat * 4)).off + 3, none⟩ = some (.string ((rd_T67 l0 x5_1).f3))) (ds := []) #[false, false, false, false, false, false, false, false] (by kernel_rfl) rfl rfl ⟨((HB.out.cell (World.block_lt_of_cell? w _ hw409_0)).trans hw409_0), ((HB.out.cell (World.block_lt_of_cell? w _ hw409_1)).trans hw409_1), ((HB.out.cell (World.block_lt_of_cell? w _ hw409_2)).trans hw409_2), ((HB.out.cell (World.block_lt_of_cell? w _ hw409_3)).trans hw409_3)⟩ (fun hHeld => ?_); refine with_tabW laws_heldActS.tab7 laws_heldActS.bits7 (fun HT_ HW_ => ?_)
         generalize wr.drew = w12 at HB hx409_0 hx409_1 hx409_2 hx409_3 hHeld ⊢
         refine zpu 0 21 #[true, false, false, false, false, false, false, false] HT_ ?_
         refine zpu 1 22 #[true, true, false, false, false, false, false, false] HT_ ?_
         refine zpu 2 23 #[true, true, true, false, false, false, false, false] HT_ ?_
         refine zpu 3 24 #[true, true, true, true, false, false, false, false] HT_ ?_
         refine zpu 5 26 #[true, true, true, true, false, true, false, false] HT_ ?_
         refine ztk4 4 25 #[true, true, true, true, true, true, false, false] HT_ HW_ hHeld ?_
         refine zon 6 #[true, true, true, true, true, true, true, false] HT_ (fun K hK => ?_)
         refine goes_ Tryz.func37 (by kernel_rfl) rfl #[.int .i64 (wrap64 (x1_1 + 1))] (by rfl) rfl rfl zr ?_
         with_reducible refine (laws_markText.calls k1 (wrap64 (x1_1 + 1)) t410 _ A6.out).mono ?_
         rintro e w13 ⟨rfl, hb⟩
         refine ⟨_, rfl, ?_⟩
         replace HB := zs0 hb HB
         refine hK.out _ _ ⟨((HB.out.cell (World.block_lt_of_cell? w _ hw409_0)).trans hw409_0), ((HB.out.cell (World.block_lt_of_cell? w _ hw409_1)).trans hw409_1), ((HB.out.cell (World.block_lt_of_cell? w _ hw409_2)).trans hw409_2), ((HB.out.cell (World.block_lt_of_cell? w _ hw409_3)).trans hw409_3)⟩ (fun hHeld => ?_)
         clear hK K
         refine znm 27 ?_
         refine zpu 7 28 #[true, true, true, true, true, true, true, true] HT_ ?_
         refine zdn HT_ ?_
         try go_wp2
         replace HB := am (below_drew1 HB.out)
         have p411 : 0 ≤ (x5_1 : Int) := of_decide_eq_true (by first | (with_reducible assumption) | assumption)
         have q411 : x5_1 < (l0.length : Int) := of_decide_eq_true (by first | (with_reducible assumption) | assumption)
         obtain ⟨ad411, e411, hx411_0, hx411_1, hx411_2, hx411_3⟩ := at_T67 HR0.out x5_1 p411 q411
         have hw411_3 := hx411_3
         have hw411_2 := hx411_2
         have hw411_1 := hx411_1
         have hw411_0 := hx411_0
         obtain rfl : ad408 = ad411 := (by injection e411)
         replace hx411_0 := (HB.out.cell (World.block_lt_of_cell? w _ hx411_0)).trans hx411_0
         replace hx411_1 := (HB.out.cell (World.block_lt_of_cell? w _ hx411_1)).trans hx411_1
         replace hx411_2 := (HB.out.cell (World.block_lt_of_cell? w _ hx411_2)).trans hx411_2
         replace hx411_3 := (HB.out.cell (World.block_lt_of_cell? w _ hx411_3)).trans hx411_3
         replace p411 := eq_true p411
         replace q411 := eq_true q411
         refine start_ (n := 8) (S := fun w' => w'.cell? (ad408.add ((x5_1).toNat * 4)) = some (.int .i64 ((rd_T67 l0 x5_1).f0)) ∧ w'.cell? ⟨(ad408.add ((x5_1).toNat * 4)).block, (ad408.add ((x5_1).toNat * 4)).off + 1, none⟩ = some (.string ((rd_T67 l0 x5_1).f1)) ∧ w'.cell? ⟨(ad408.add ((x5_1).toNat * 4)).block, (ad408.add ((x5_1).toNat * 4)).off + 2, none⟩ = some (.string ((rd_T67 l0 x5_1).f2)) ∧ w'.cell? ⟨(ad408.add ((x5_1).toNat * 4)).block, (ad408.add ((x5_1).toNat * 4)).off + 3, none⟩ = some (.string ((rd_T67 l0 x5_1).f3))) (ds := []) #[false, false, false, false, false, false, false, false] (by kernel_rfl) rfl rfl ⟨((HB.out.cell (World.block_lt_of_cell? w _ hw411_0)).trans hw411_0), ((HB.out.cell (World.block_lt_of_cell? w _ hw411_1)).trans hw411_1), ((HB.out.cell (World.block_lt_of_cell? w _ hw411_2)).trans hw411_2), ((HB.out.cell (World.block_lt_of_cell? w _ hw411_3)).trans hw411_3)⟩ (fun hHeld => ?_); refine with_tabW laws_heldActS.tab10 laws_heldActS.bits10 (fun HT_ HW_ => ?_)
         generalize w13.drew = w14 at HB hx411_0 hx411_1 hx411_2 hx411_3 hHeld ⊢
         refine zpu 0 31 #[true, false, false, false, false, false, false, false] HT_ ?_
         refine zpu 1 32 #[true, true, false, false, false, false, false, false] HT_ ?_
         refine zpu 2 33 #[true, true, true, false, false, false, false, false] HT_ ?_
         refine zpu 3 34 #[true, true, true, true, false, false, false, false] HT_ ?_
         refine zpu 5 36 #[true, true, true, true, false, true, false, false] HT_ ?_
         refine ztk4 4 35 #[true, true, true, true, true, true, false, false] HT_ HW_ hHeld ?_
         refine zon 6 #[true, true, true, true, true, true, true, false] HT_ (fun K hK => ?_)
         refine goes_ Tryz.func37 (by kernel_rfl) rfl #[.int .i64 (wrap64 ((wrap64 (x1_1 + 1)) + 1))] (by rfl) rfl rfl zr ?_
         with_reducible refine (laws_markText.calls k1 (wrap64 ((wrap64 (x1_1 + 1)) + 1)) t412 _ A8.out).mono ?_
         rintro e w15 ⟨rfl, hb⟩
         refine ⟨_, rfl, ?_⟩
         replace HB := zs0 hb HB
         refine hK.out _ _ ⟨((HB.out.cell (World.block_lt_of_cell? w _ hw411_0)).trans hw411_0), ((HB.out.cell (World.block_lt_of_cell? w _ hw411_1)).trans hw411_1), ((HB.out.cell (World.block_lt_of_cell? w _ hw411_2)).trans hw411_2), ((HB.out.cell (World.block_lt_of_cell? w _ hw411_3)).trans hw411_3)⟩ (fun hHeld => ?_)
         clear hK K
         refine znm 37 ?_
         refine zpu 7 38 #[true, true, true, true, true, true, true, true] HT_ ?_
         refine zdn HT_ ?_
         try go_wp2
         replace HB := am (below_drew1 HB.out)
         have p413 : 0 ≤ (x5_1 : Int) := of_decide_eq_true (by first | (with_reducible assumption) | assumption)
         have q413 : x5_1 < (l0.length : Int) := of_decide_eq_true (by first | (with_reducible assumption) | assumption)
         obtain ⟨ad413, e413, hx413_0, hx413_1, hx413_2, hx413_3⟩ := at_T67 HR0.out x5_1 p413 q413
         have hw413_3 := hx413_3
         have hw413_2 := hx413_2
         have hw413_1 := hx413_1
         have hw413_0 := hx413_0
         obtain rfl : ad408 = ad413 := (by injection e413)
         replace hx413_0 := (HB.out.cell (World.block_lt_of_cell? w _ hx413_0)).trans hx413_0
         replace hx413_1 := (HB.out.cell (World.block_lt_of_cell? w _ hx413_1)).trans hx413_1
         replace hx413_2 := (HB.out.cell (World.block_lt_of_cell? w _ hx413_2)).trans hx413_2
         replace hx413_3 := (HB.out.cell (World.block_lt_of_cell? w _ hx413_3)).trans hx413_3
         replace p413 := eq_true p413
         replace q413 := eq_true q413
         refine start_ (n := 8) (S := fun w' => w'.cell? (ad408.add ((x5_1).toNat * 4)) = some (.int .i64 ((rd_T67 l0 x5_1).f0)) ∧ w'.cell? ⟨(ad408.add ((x5_1).toNat * 4)).block, (ad408.add ((x5_1).toNat * 4)).off + 1, none⟩ = some (.string ((rd_T67 l0 x5_1).f1)) ∧ w'.cell? ⟨(ad408.add ((x5_1).toNat * 4)).block, (ad408.add ((x5_1).toNat * 4)).off + 2, none⟩ = some (.string ((rd_T67 l0 x5_1).f2)) ∧ w'.cell? ⟨(ad408.add ((x5_1).toNat * 4)).block, (ad408.add ((x5_1).toNat * 4)).off + 3, none⟩ = some (.string ((rd_T67 l0 x5_1).f3))) (ds := []) #[false, false, false, false, false, false, false, false] (by kernel_rfl) rfl rfl ⟨((HB.out.cell (World.block_lt_of_cell? w _ hw413_0)).trans hw413_0), ((HB.out.cell (World.block_lt_of_cell? w _ hw413_1)).trans hw413_1), ((HB.out.cell (World.block_lt_of_cell? w _ hw413_2)).trans hw413_2), ((HB.out.cell (World.block_lt_of_cell? w _ hw413_3)).trans hw413_3)⟩ (fun hHeld => ?_); refine with_tabW laws_heldActS.tab13 laws_heldActS.bits13 (fun HT_ HW_ => ?_)
         generalize w15.drew = w16 at HB hx413_0 hx413_1 hx413_2 hx413_3 hHeld ⊢
         refine zpu 0 41 #[true, false, false, false, false, false, false, false] HT_ ?_
         refine zpu 1 42 #[true, true, false, false, false, false, false, false] HT_ ?_
         refine zpu 2 43 #[true, true, true, false, false, false, false, false] HT_ ?_
         refine zpu 3 44 #[true, true, true, true, false, false, false, false] HT_ ?_
         refine zpu 5 46 #[true, true, true, true, false, true, false, false] HT_ ?_
         refine ztk4 4 45 #[true, true, true, true, true, true, false, false] HT_ HW_ hHeld ?_
         refine zon 6 #[true, true, true, true, true, true, true, false] HT_ (fun K hK => ?_)
         refine goes_ Tryz.func37 (by kernel_rfl) rfl #[.int .i64 (wrap64 ((wrap64 ((wrap64 (x1_1 + 1)) + 1)) + 1))] (by rfl) rfl rfl zr ?_
         with_reducible refine (laws_markText.calls k1 (wrap64 ((wrap64 ((wrap64 (x1_1 + 1)) + 1)) + 1)) t414 _ A10.out).mono ?_
         rintro e w17 ⟨rfl, hb⟩
         refine ⟨_, rfl, ?_⟩
         replace HB := zs0 hb HB
         refine hK.out _ _ ⟨((HB.out.cell (World.block_lt_of_cell? w _ hw413_0)).trans hw413_0), ((HB.out.cell (World.block_lt_of_cell? w _ hw413_1)).trans hw413_1), ((HB.out.cell (World.block_lt_of_cell? w _ hw413_2)).trans hw413_2), ((HB.out.cell (World.block_lt_of_cell? w _ hw413_3)).trans hw413_3)⟩ (fun hHeld => ?_)
         clear hK K
         refine znm 47 ?_
         refine zpu 7 48 #[true, true, true, true, true, true, true, true] HT_ ?_
         refine zdn HT_ ?_
         try go_wp2
         go_roundg k1
         case measure => have := HK1.out; omega
         case rel => exact ⟨(wrap64 ((wrap64 ((wrap64 ((wrap64 (x1_1 + 1)) + 1)) + 1)) + 1)), (wrap64 (x5_1 + 1)), (by first | rfl | (simp; done) | (simp [*]; done)), (by first | rfl | (simp; done) | (simp [*]; done)), H', ⟨by have := HK1.out; omega⟩, ⟨zb0 HB.out⟩⟩
        ·rw [if_neg c11] at H
         have c11b0 : (((rd_T67 l0 x5_1).f3).toList == t414.toList) = false := beq_eq_false_iff_ne.mpr c11
         have c11b1 : (((rd_T67 l0 x5_1).f3).toList != t414.toList) = true := bne_iff_ne.mpr c11
         obtain rfl := Option.some.inj H
         have p408 : 0 ≤ (x5_1 : Int) := of_decide_eq_true (by first | (with_reducible assumption) | assumption)
         have q408 : x5_1 < (l0.length : Int) := of_decide_eq_true (by first | (with_reducible assumption) | assumption)
         obtain ⟨ad408, e408, hx408_0, hx408_1, hx408_2, hx408_3⟩ := at_T67 HR0.out x5_1 p408 q408
         cases e408
         replace hx408_0 := (HB.out.cell (World.block_lt_of_cell? w _ hx408_0)).trans hx408_0
         replace hx408_1 := (HB.out.cell (World.block_lt_of_cell? w _ hx408_1)).trans hx408_1
         replace hx408_2 := (HB.out.cell (World.block_lt_of_cell? w _ hx408_2)).trans hx408_2
         replace hx408_3 := (HB.out.cell (World.block_lt_of_cell? w _ hx408_3)).trans hx408_3
         replace p408 := eq_true p408
         replace q408 := eq_true q408
         try go_wp2
         replace HB := am (below_drew1 HB.out)
         have p409 : 0 ≤ (x5_1 : Int) := of_decide_eq_true (by first | (with_reducible assumption) | assumption)
         have q409 : x5_1 < (l0.length : Int) := of_decide_eq_true (by first | (with_reducible assumption) | assumption)
         obtain ⟨ad409, e409, hx409_0, hx409_1, hx409_2, hx409_3⟩ := at_T67 HR0.out x5_1 p409 q409
         have hw409_3 := hx409_3
         have hw409_2 := hx409_2
         have hw409_1 := hx409_1
         have hw409_0 := hx409_0
         obtain rfl : ad408 = ad409 := (by injection e409)
         replace hx409_0 := (HB.out.cell (World.block_lt_of_cell? w _ hx409_0)).trans hx409_0
         replace hx409_1 := (HB.out.cell (World.block_lt_of_cell? w _ hx409_1)).trans hx409_1
         replace hx409_2 := (HB.out.cell (World.block_lt_of_cell? w _ hx409_2)).trans hx409_2
         replace hx409_3 := (HB.out.cell (World.block_lt_of_cell? w _ hx409_3)).trans hx409_3
         replace p409 := eq_true p409
         replace q409 := eq_true q409
         refine start_ (n := 8) (S := fun w' => w'.cell? (ad408.add ((x5_1).toNat * 4)) = some (.int .i64 ((rd_T67 l0 x5_1).f0)) ∧ w'.cell? ⟨(ad408.add ((x5_1).toNat * 4)).block, (ad408.add ((x5_1).toNat * 4)).off + 1, none⟩ = some (.string ((rd_T67 l0 x5_1).f1)) ∧ w'.cell? ⟨(ad408.add ((x5_1).toNat * 4)).block, (ad408.add ((x5_1).toNat * 4)).off + 2, none⟩ = some (.string ((rd_T67 l0 x5_1).f2)) ∧ w'.cell? ⟨(ad408.add ((x5_1).toNat * 4)).block, (ad408.add ((x5_1).toNat * 4)).off + 3, none⟩ = some (.string ((rd_T67 l0 x5_1).f3))) (ds := []) #[false, false, false, false, false, false, false, false] (by kernel_rfl) rfl rfl ⟨((HB.out.cell (World.block_lt_of_cell? w _ hw409_0)).trans hw409_0), ((HB.out.cell (World.block_lt_of_cell? w _ hw409_1)).trans hw409_1), ((HB.out.cell (World.block_lt_of_cell? w _ hw409_2)).trans hw409_2), ((HB.out.cell (World.block_lt_of_cell? w _ hw409_3)).trans hw409_3)⟩ (fun hHeld => ?_); refine with_tabW laws_heldActS.tab7 laws_heldActS.bits7 (fun HT_ HW_ => ?_)
         generalize wr.drew = w18 at HB hx409_0 hx409_1 hx409_2 hx409_3 hHeld ⊢
         refine zpu 0 21 #[true, false, false, false, false, false, false, false] HT_ ?_
         refine zpu 1 22 #[true, true, false, false, false, false, false, false] HT_ ?_
         refine zpu 2 23 #[true, true, true, false, false, false, false, false] HT_ ?_
         refine zpu 3 24 #[true, true, true, true, false, false, false, false] HT_ ?_
         refine zpu 5 26 #[true, true, true, true, false, true, false, false] HT_ ?_
         refine ztk4 4 25 #[true, true, true, true, true, true, false, false] HT_ HW_ hHeld ?_
         refine zon 6 #[true, true, true, true, true, true, true, false] HT_ (fun K hK => ?_)
         refine goes_ Tryz.func37 (by kernel_rfl) rfl #[.int .i64 (wrap64 (x1_1 + 1))] (by rfl) rfl rfl zr ?_
         with_reducible refine (laws_markText.calls k1 (wrap64 (x1_1 + 1)) t410 _ A6.out).mono ?_
         rintro e w19 ⟨rfl, hb⟩
         refine ⟨_, rfl, ?_⟩
         replace HB := zs0 hb HB
         refine hK.out _ _ ⟨((HB.out.cell (World.block_lt_of_cell? w _ hw409_0)).trans hw409_0), ((HB.out.cell (World.block_lt_of_cell? w _ hw409_1)).trans hw409_1), ((HB.out.cell (World.block_lt_of_cell? w _ hw409_2)).trans hw409_2), ((HB.out.cell (World.block_lt_of_cell? w _ hw409_3)).trans hw409_3)⟩ (fun hHeld => ?_)
         clear hK K
         refine znm 27 ?_
         refine zpu 7 28 #[true, true, true, true, true, true, true, true] HT_ ?_
         refine zdn HT_ ?_
         try go_wp2
         replace HB := am (below_drew1 HB.out)
         have p411 : 0 ≤ (x5_1 : Int) := of_decide_eq_true (by first | (with_reducible assumption) | assumption)
         have q411 : x5_1 < (l0.length : Int) := of_decide_eq_true (by first | (with_reducible assumption) | assumption)
         obtain ⟨ad411, e411, hx411_0, hx411_1, hx411_2, hx411_3⟩ := at_T67 HR0.out x5_1 p411 q411
         have hw411_3 := hx411_3
         have hw411_2 := hx411_2
         have hw411_1 := hx411_1
         have hw411_0 := hx411_0
         obtain rfl : ad408 = ad411 := (by injection e411)
         replace hx411_0 := (HB.out.cell (World.block_lt_of_cell? w _ hx411_0)).trans hx411_0
         replace hx411_1 := (HB.out.cell (World.block_lt_of_cell? w _ hx411_1)).trans hx411_1
         replace hx411_2 := (HB.out.cell (World.block_lt_of_cell? w _ hx411_2)).trans hx411_2
         replace hx411_3 := (HB.out.cell (World.block_lt_of_cell? w _ hx411_3)).trans hx411_3
         replace p411 := eq_true p411
         replace q411 := eq_true q411
         refine start_ (n := 8) (S := fun w' => w'.cell? (ad408.add ((x5_1).toNat * 4)) = some (.int .i64 ((rd_T67 l0 x5_1).f0)) ∧ w'.cell? ⟨(ad408.add ((x5_1).toNat * 4)).block, (ad408.add ((x5_1).toNat * 4)).off + 1, none⟩ = some (.string ((rd_T67 l0 x5_1).f1)) ∧ w'.cell? ⟨(ad408.add ((x5_1).toNat * 4)).block, (ad408.add ((x5_1).toNat * 4)).off + 2, none⟩ = some (.string ((rd_T67 l0 x5_1).f2)) ∧ w'.cell? ⟨(ad408.add ((x5_1).toNat * 4)).block, (ad408.add ((x5_1).toNat * 4)).off + 3, none⟩ = some (.string ((rd_T67 l0 x5_1).f3))) (ds := []) #[false, false, false, false, false, false, false, false] (by kernel_rfl) rfl rfl ⟨((HB.out.cell (World.block_lt_of_cell? w _ hw411_0)).trans hw411_0), ((HB.out.cell (World.block_lt_of_cell? w _ hw411_1)).trans hw411_1), ((HB.out.cell (World.block_lt_of_cell? w _ hw411_2)).trans hw411_2), ((HB.out.cell (World.block_lt_of_cell? w _ hw411_3)).trans hw411_3)⟩ (fun hHeld => ?_); refine with_tabW laws_heldActS.tab10 laws_heldActS.bits10 (fun HT_ HW_ => ?_)
         generalize w19.drew = w20 at HB hx411_0 hx411_1 hx411_2 hx411_3 hHeld ⊢
         refine zpu 0 31 #[true, false, false, false, false, false, false, false] HT_ ?_
         refine zpu 1 32 #[true, true, false, false, false, false, false, false] HT_ ?_
         refine zpu 2 33 #[true, true, true, false, false, false, false, false] HT_ ?_
         refine zpu 3 34 #[true, true, true, true, false, false, false, false] HT_ ?_
         refine zpu 5 36 #[true, true, true, true, false, true, false, false] HT_ ?_
         refine ztk4 4 35 #[true, true, true, true, true, true, false, false] HT_ HW_ hHeld ?_
         refine zon 6 #[true, true, true, true, true, true, true, false] HT_ (fun K hK => ?_)
         refine goes_ Tryz.func37 (by kernel_rfl) rfl #[.int .i64 (wrap64 ((wrap64 (x1_1 + 1)) + 1))] (by rfl) rfl rfl zr ?_
         with_reducible refine (laws_markText.calls k1 (wrap64 ((wrap64 (x1_1 + 1)) + 1)) t412 _ A8.out).mono ?_
         rintro e w21 ⟨rfl, hb⟩
         refine ⟨_, rfl, ?_⟩
         replace HB := zs0 hb HB
         refine hK.out _ _ ⟨((HB.out.cell (World.block_lt_of_cell? w _ hw411_0)).trans hw411_0), ((HB.out.cell (World.block_lt_of_cell? w _ hw411_1)).trans hw411_1), ((HB.out.cell (World.block_lt_of_cell? w _ hw411_2)).trans hw411_2), ((HB.out.cell (World.block_lt_of_cell? w _ hw411_3)).trans hw411_3)⟩ (fun hHeld => ?_)
         clear hK K
         refine znm 37 ?_
         refine zpu 7 38 #[true, true, true, true, true, true, true, true] HT_ ?_
         refine zdn HT_ ?_
         try go_wp2
         replace HB := am (below_drew1 HB.out)
         have p413 : 0 ≤ (x5_1 : Int) := of_decide_eq_true (by first | (with_reducible assumption) | assumption)
         have q413 : x5_1 < (l0.length : Int) := of_decide_eq_true (by first | (with_reducible assumption) | assumption)
         obtain ⟨ad413, e413, hx413_0, hx413_1, hx413_2, hx413_3⟩ := at_T67 HR0.out x5_1 p413 q413
         have hw413_3 := hx413_3
         have hw413_2 := hx413_2
         have hw413_1 := hx413_1
         have hw413_0 := hx413_0
         obtain rfl : ad408 = ad413 := (by injection e413)
         replace hx413_0 := (HB.out.cell (World.block_lt_of_cell? w _ hx413_0)).trans hx413_0
         replace hx413_1 := (HB.out.cell (World.block_lt_of_cell? w _ hx413_1)).trans hx413_1
         replace hx413_2 := (HB.out.cell (World.block_lt_of_cell? w _ hx413_2)).trans hx413_2
         replace hx413_3 := (HB.out.cell (World.block_lt_of_cell? w _ hx413_3)).trans hx413_3
         replace p413 := eq_true p413
         replace q413 := eq_true q413
         refine start_ (n := 8) (S := fun w' => w'.cell? (ad408.add ((x5_1).toNat * 4)) = some (.int .i64 ((rd_T67 l0 x5_1).f0)) ∧ w'.cell? ⟨(ad408.add ((x5_1).toNat * 4)).block, (ad408.add ((x5_1).toNat * 4)).off + 1, none⟩ = some (.string ((rd_T67 l0 x5_1).f1)) ∧ w'.cell? ⟨(ad408.add ((x5_1).toNat * 4)).block, (ad408.add ((x5_1).toNat * 4)).off + 2, none⟩ = some (.string ((rd_T67 l0 x5_1).f2)) ∧ w'.cell? ⟨(ad408.add ((x5_1).toNat * 4)).block, (ad408.add ((x5_1).toNat * 4)).off + 3, none⟩ = some (.string ((rd_T67 l0 x5_1).f3))) (ds := []) #[false, false, false, false, false, false, false, false] (by kernel_rfl) rfl rfl ⟨((HB.out.cell (World.block_lt_of_cell? w _ hw413_0)).trans hw413_0), ((HB.out.cell (World.block_lt_of_cell? w _ hw413_1)).trans hw413_1), ((HB.out.cell (World.block_lt_of_cell? w _ hw413_2)).trans hw413_2), ((HB.out.cell (World.block_lt_of_cell? w _ hw413_3)).trans hw413_3)⟩ (fun hHeld => ?_); refine with_tabW laws_heldActS.tab13 laws_heldActS.bits13 (fun HT_ HW_ => ?_)
         generalize w21.drew = w22 at HB hx413_0 hx413_1 hx413_2 hx413_3 hHeld ⊢
         refine zpu 0 41 #[true, false, false, false, false, false, false, false] HT_ ?_
         refine zpu 1 42 #[true, true, false, false, false, false, false, false] HT_ ?_
         refine zpu 2 43 #[true, true, true, false, false, false, false, false] HT_ ?_
         refine zpu 3 44 #[true, true, true, true, false, false, false, false] HT_ ?_
         refine zpu 5 46 #[true, true, true, true, false, true, false, false] HT_ ?_
         refine ztk4 4 45 #[true, true, true, true, true, true, false, false] HT_ HW_ hHeld ?_
         refine zon 6 #[true, true, true, true, true, true, true, false] HT_ (fun K hK => ?_)
         refine goes_ Tryz.func37 (by kernel_rfl) rfl #[.int .i64 (wrap64 ((wrap64 ((wrap64 (x1_1 + 1)) + 1)) + 1))] (by rfl) rfl rfl zr ?_
         with_reducible refine (laws_markText.calls k1 (wrap64 ((wrap64 ((wrap64 (x1_1 + 1)) + 1)) + 1)) t414 _ A10.out).mono ?_
         rintro e w23 ⟨rfl, hb⟩
         refine ⟨_, rfl, ?_⟩
         replace HB := zs0 hb HB
         refine hK.out _ _ ⟨((HB.out.cell (World.block_lt_of_cell? w _ hw413_0)).trans hw413_0), ((HB.out.cell (World.block_lt_of_cell? w _ hw413_1)).trans hw413_1), ((HB.out.cell (World.block_lt_of_cell? w _ hw413_2)).trans hw413_2), ((HB.out.cell (World.block_lt_of_cell? w _ hw413_3)).trans hw413_3)⟩ (fun hHeld => ?_)
         clear hK K
         refine znm 47 ?_
         refine zpu 7 48 #[true, true, true, true, true, true, true, true] HT_ ?_
         refine zdn HT_ ?_
         try go_wp2
         go_ret
         exact ⟨by first | rfl | (simp [errW_none, errW_some] <;> rfl) | (simp [*, errW_none, errW_some] <;> rfl), zb0 HB.out⟩
       ·rw [if_neg c9] at H
        have c9b0 : (((rd_T67 l0 x5_1).f2).toList == t412.toList) = false := beq_eq_false_iff_ne.mpr c9
        have c9b1 : (((rd_T67 l0 x5_1).f2).toList != t412.toList) = true := bne_iff_ne.mpr c9
        obtain rfl := Option.some.inj H
        have p408 : 0 ≤ (x5_1 : Int) := of_decide_eq_true (by first | (with_reducible assumption) | assumption)
        have q408 : x5_1 < (l0.length : Int) := of_decide_eq_true (by first | (with_reducible assumption) | assumption)
        obtain ⟨ad408, e408, hx408_0, hx408_1, hx408_2, hx408_3⟩ := at_T67 HR0.out x5_1 p408 q408
        cases e408
        replace hx408_0 := (HB.out.cell (World.block_lt_of_cell? w _ hx408_0)).trans hx408_0
        replace hx408_1 := (HB.out.cell (World.block_lt_of_cell? w _ hx408_1)).trans hx408_1
        replace hx408_2 := (HB.out.cell (World.block_lt_of_cell? w _ hx408_2)).trans hx408_2
        replace hx408_3 := (HB.out.cell (World.block_lt_of_cell? w _ hx408_3)).trans hx408_3
        replace p408 := eq_true p408
        replace q408 := eq_true q408
        try go_wp2
        replace HB := am (below_drew1 HB.out)
        have p409 : 0 ≤ (x5_1 : Int) := of_decide_eq_true (by first | (with_reducible assumption) | assumption)
        have q409 : x5_1 < (l0.length : Int) := of_decide_eq_true (by first | (with_reducible assumption) | assumption)
        obtain ⟨ad409, e409, hx409_0, hx409_1, hx409_2, hx409_3⟩ := at_T67 HR0.out x5_1 p409 q409
        have hw409_3 := hx409_3
        have hw409_2 := hx409_2
        have hw409_1 := hx409_1
        have hw409_0 := hx409_0
        obtain rfl : ad408 = ad409 := (by injection e409)
        replace hx409_0 := (HB.out.cell (World.block_lt_of_cell? w _ hx409_0)).trans hx409_0
        replace hx409_1 := (HB.out.cell (World.block_lt_of_cell? w _ hx409_1)).trans hx409_1
        replace hx409_2 := (HB.out.cell (World.block_lt_of_cell? w _ hx409_2)).trans hx409_2
        replace hx409_3 := (HB.out.cell (World.block_lt_of_cell? w _ hx409_3)).trans hx409_3
        replace p409 := eq_true p409
        replace q409 := eq_true q409
        refine start_ (n := 8) (S := fun w' => w'.cell? (ad408.add ((x5_1).toNat * 4)) = some (.int .i64 ((rd_T67 l0 x5_1).f0)) ∧ w'.cell? ⟨(ad408.add ((x5_1).toNat * 4)).block, (ad408.add ((x5_1).toNat * 4)).off + 1, none⟩ = some (.string ((rd_T67 l0 x5_1).f1)) ∧ w'.cell? ⟨(ad408.add ((x5_1).toNat * 4)).block, (ad408.add ((x5_1).toNat * 4)).off + 2, none⟩ = some (.string ((rd_T67 l0 x5_1).f2)) ∧ w'.cell? ⟨(ad408.add ((x5_1).toNat * 4)).block, (ad408.add ((x5_1).toNat * 4)).off + 3, none⟩ = some (.string ((rd_T67 l0 x5_1).f3))) (ds := []) #[false, false, false, false, false, false, false, false] (by kernel_rfl) rfl rfl ⟨((HB.out.cell (World.block_lt_of_cell? w _ hw409_0)).trans hw409_0), ((HB.out.cell (World.block_lt_of_cell? w _ hw409_1)).trans hw409_1), ((HB.out.cell (World.block_lt_of_cell? w _ hw409_2)).trans hw409_2), ((HB.out.cell (World.block_lt_of_cell? w _ hw409_3)).trans hw409_3)⟩ (fun hHeld => ?_); refine with_tabW laws_heldActS.tab7 laws_heldActS.bits7 (fun HT_ HW_ => ?_)
        generalize wr.drew = w24 at HB hx409_0 hx409_1 hx409_2 hx409_3 hHeld ⊢
        refine zpu 0 21 #[true, false, false, false, false, false, false, false] HT_ ?_
        refine zpu 1 22 #[true, true, false, false, false, false, false, false] HT_ ?_
        refine zpu 2 23 #[true, true, true, false, false, false, false, false] HT_ ?_
        refine zpu 3 24 #[true, true, true, true, false, false, false, false] HT_ ?_
        refine zpu 5 26 #[true, true, true, true, false, true, false, false] HT_ ?_
        refine ztk4 4 25 #[true, true, true, true, true, true, false, false] HT_ HW_ hHeld ?_
        refine zon 6 #[true, true, true, true, true, true, true, false] HT_ (fun K hK => ?_)
        refine goes_ Tryz.func37 (by kernel_rfl) rfl #[.int .i64 (wrap64 (x1_1 + 1))] (by rfl) rfl rfl zr ?_
        with_reducible refine (laws_markText.calls k1 (wrap64 (x1_1 + 1)) t410 _ A6.out).mono ?_
        rintro e w25 ⟨rfl, hb⟩
        refine ⟨_, rfl, ?_⟩
        replace HB := zs0 hb HB
        refine hK.out _ _ ⟨((HB.out.cell (World.block_lt_of_cell? w _ hw409_0)).trans hw409_0), ((HB.out.cell (World.block_lt_of_cell? w _ hw409_1)).trans hw409_1), ((HB.out.cell (World.block_lt_of_cell? w _ hw409_2)).trans hw409_2), ((HB.out.cell (World.block_lt_of_cell? w _ hw409_3)).trans hw409_3)⟩ (fun hHeld => ?_)
        clear hK K
        refine znm 27 ?_
        refine zpu 7 28 #[true, true, true, true, true, true, true, true] HT_ ?_
        refine zdn HT_ ?_
        try go_wp2
        replace HB := am (below_drew1 HB.out)
        have p411 : 0 ≤ (x5_1 : Int) := of_decide_eq_true (by first | (with_reducible assumption) | assumption)
        have q411 : x5_1 < (l0.length : Int) := of_decide_eq_true (by first | (with_reducible assumption) | assumption)
        obtain ⟨ad411, e411, hx411_0, hx411_1, hx411_2, hx411_3⟩ := at_T67 HR0.out x5_1 p411 q411
        have hw411_3 := hx411_3
        have hw411_2 := hx411_2
        have hw411_1 := hx411_1
        have hw411_0 := hx411_0
        obtain rfl : ad408 = ad411 := (by injection e411)
        replace hx411_0 := (HB.out.cell (World.block_lt_of_cell? w _ hx411_0)).trans hx411_0
        replace hx411_1 := (HB.out.cell (World.block_lt_of_cell? w _ hx411_1)).trans hx411_1
        replace hx411_2 := (HB.out.cell (World.block_lt_of_cell? w _ hx411_2)).trans hx411_2
        replace hx411_3 := (HB.out.cell (World.block_lt_of_cell? w _ hx411_3)).trans hx411_3
        replace p411 := eq_true p411
        replace q411 := eq_true q411
        refine start_ (n := 8) (S := fun w' => w'.cell? (ad408.add ((x5_1).toNat * 4)) = some (.int .i64 ((rd_T67 l0 x5_1).f0)) ∧ w'.cell? ⟨(ad408.add ((x5_1).toNat * 4)).block, (ad408.add ((x5_1).toNat * 4)).off + 1, none⟩ = some (.string ((rd_T67 l0 x5_1).f1)) ∧ w'.cell? ⟨(ad408.add ((x5_1).toNat * 4)).block, (ad408.add ((x5_1).toNat * 4)).off + 2, none⟩ = some (.string ((rd_T67 l0 x5_1).f2)) ∧ w'.cell? ⟨(ad408.add ((x5_1).toNat * 4)).block, (ad408.add ((x5_1).toNat * 4)).off + 3, none⟩ = some (.string ((rd_T67 l0 x5_1).f3))) (ds := []) #[false, false, false, false, false, false, false, false] (by kernel_rfl) rfl rfl ⟨((HB.out.cell (World.block_lt_of_cell? w _ hw411_0)).trans hw411_0), ((HB.out.cell (World.block_lt_of_cell? w _ hw411_1)).trans hw411_1), ((HB.out.cell (World.block_lt_of_cell? w _ hw411_2)).trans hw411_2), ((HB.out.cell (World.block_lt_of_cell? w _ hw411_3)).trans hw411_3)⟩ (fun hHeld => ?_); refine with_tabW laws_heldActS.tab10 laws_heldActS.bits10 (fun HT_ HW_ => ?_)
        generalize w25.drew = w26 at HB hx411_0 hx411_1 hx411_2 hx411_3 hHeld ⊢
        refine zpu 0 31 #[true, false, false, false, false, false, false, false] HT_ ?_
        refine zpu 1 32 #[true, true, false, false, false, false, false, false] HT_ ?_
        refine zpu 2 33 #[true, true, true, false, false, false, false, false] HT_ ?_
        refine zpu 3 34 #[true, true, true, true, false, false, false, false] HT_ ?_
        refine zpu 5 36 #[true, true, true, true, false, true, false, false] HT_ ?_
        refine ztk4 4 35 #[true, true, true, true, true, true, false, false] HT_ HW_ hHeld ?_
        refine zon 6 #[true, true, true, true, true, true, true, false] HT_ (fun K hK => ?_)
        refine goes_ Tryz.func37 (by kernel_rfl) rfl #[.int .i64 (wrap64 ((wrap64 (x1_1 + 1)) + 1))] (by rfl) rfl rfl zr ?_
        with_reducible refine (laws_markText.calls k1 (wrap64 ((wrap64 (x1_1 + 1)) + 1)) t412 _ A8.out).mono ?_
        rintro e w27 ⟨rfl, hb⟩
        refine ⟨_, rfl, ?_⟩
        replace HB := zs0 hb HB
        refine hK.out _ _ ⟨((HB.out.cell (World.block_lt_of_cell? w _ hw411_0)).trans hw411_0), ((HB.out.cell (World.block_lt_of_cell? w _ hw411_1)).trans hw411_1), ((HB.out.cell (World.block_lt_of_cell? w _ hw411_2)).trans hw411_2), ((HB.out.cell (World.block_lt_of_cell? w _ hw411_3)).trans hw411_3)⟩ (fun hHeld => ?_)
        clear hK K
        refine znm 37 ?_
        refine zpu 7 38 #[true, true, true, true, true, true, true, true] HT_ ?_
        refine zdn HT_ ?_
        try go_wp2
        go_ret
        exact ⟨by first | rfl | (simp [errW_none, errW_some] <;> rfl) | (simp [*, errW_none, errW_some] <;> rfl), zb0 HB.out⟩
      ·rw [if_neg c7] at H
       have c7b0 : (((rd_T67 l0 x5_1).f1).toList == t410.toList) = false := beq_eq_false_iff_ne.mpr c7
       have c7b1 : (((rd_T67 l0 x5_1).f1).toList != t410.toList) = true := bne_iff_ne.mpr c7
       obtain rfl := Option.some.inj H
       have p408 : 0 ≤ (x5_1 : Int) := of_decide_eq_true (by first | (with_reducible assumption) | assumption)
       have q408 : x5_1 < (l0.length : Int) := of_decide_eq_true (by first | (with_reducible assumption) | assumption)
       obtain ⟨ad408, e408, hx408_0, hx408_1, hx408_2, hx408_3⟩ := at_T67 HR0.out x5_1 p408 q408
       cases e408
       replace hx408_0 := (HB.out.cell (World.block_lt_of_cell? w _ hx408_0)).trans hx408_0
       replace hx408_1 := (HB.out.cell (World.block_lt_of_cell? w _ hx408_1)).trans hx408_1
       replace hx408_2 := (HB.out.cell (World.block_lt_of_cell? w _ hx408_2)).trans hx408_2
       replace hx408_3 := (HB.out.cell (World.block_lt_of_cell? w _ hx408_3)).trans hx408_3
       replace p408 := eq_true p408
       replace q408 := eq_true q408
       try go_wp2
       replace HB := am (below_drew1 HB.out)
       have p409 : 0 ≤ (x5_1 : Int) := of_decide_eq_true (by first | (with_reducible assumption) | assumption)
       have q409 : x5_1 < (l0.length : Int) := of_decide_eq_true (by first | (with_reducible assumption) | assumption)
       obtain ⟨ad409, e409, hx409_0, hx409_1, hx409_2, hx409_3⟩ := at_T67 HR0.out x5_1 p409 q409
       have hw409_3 := hx409_3
       have hw409_2 := hx409_2
       have hw409_1 := hx409_1
       have hw409_0 := hx409_0
       obtain rfl : ad408 = ad409 := (by injection e409)
       replace hx409_0 := (HB.out.cell (World.block_lt_of_cell? w _ hx409_0)).trans hx409_0
       replace hx409_1 := (HB.out.cell (World.block_lt_of_cell? w _ hx409_1)).trans hx409_1
       replace hx409_2 := (HB.out.cell (World.block_lt_of_cell? w _ hx409_2)).trans hx409_2
       replace hx409_3 := (HB.out.cell (World.block_lt_of_cell? w _ hx409_3)).trans hx409_3
       replace p409 := eq_true p409
       replace q409 := eq_true q409
       refine start_ (n := 8) (S := fun w' => w'.cell? (ad408.add ((x5_1).toNat * 4)) = some (.int .i64 ((rd_T67 l0 x5_1).f0)) ∧ w'.cell? ⟨(ad408.add ((x5_1).toNat * 4)).block, (ad408.add ((x5_1).toNat * 4)).off + 1, none⟩ = some (.string ((rd_T67 l0 x5_1).f1)) ∧ w'.cell? ⟨(ad408.add ((x5_1).toNat * 4)).block, (ad408.add ((x5_1).toNat * 4)).off + 2, none⟩ = some (.string ((rd_T67 l0 x5_1).f2)) ∧ w'.cell? ⟨(ad408.add ((x5_1).toNat * 4)).block, (ad408.add ((x5_1).toNat * 4)).off + 3, none⟩ = some (.string ((rd_T67 l0 x5_1).f3))) (ds := []) #[false, false, false, false, false, false, false, false] (by kernel_rfl) rfl rfl ⟨((HB.out.cell (World.block_lt_of_cell? w _ hw409_0)).trans hw409_0), ((HB.out.cell (World.block_lt_of_cell? w _ hw409_1)).trans hw409_1), ((HB.out.cell (World.block_lt_of_cell? w _ hw409_2)).trans hw409_2), ((HB.out.cell (World.block_lt_of_cell? w _ hw409_3)).trans hw409_3)⟩ (fun hHeld => ?_); refine with_tabW laws_heldActS.tab7 laws_heldActS.bits7 (fun HT_ HW_ => ?_)
       generalize wr.drew = w28 at HB hx409_0 hx409_1 hx409_2 hx409_3 hHeld ⊢
       refine zpu 0 21 #[true, false, false, false, false, false, false, false] HT_ ?_
       refine zpu 1 22 #[true, true, false, false, false, false, false, false] HT_ ?_
       refine zpu 2 23 #[true, true, true, false, false, false, false, false] HT_ ?_
       refine zpu 3 24 #[true, true, true, true, false, false, false, false] HT_ ?_
       refine zpu 5 26 #[true, true, true, true, false, true, false, false] HT_ ?_
       refine ztk4 4 25 #[true, true, true, true, true, true, false, false] HT_ HW_ hHeld ?_
       refine zon 6 #[true, true, true, true, true, true, true, false] HT_ (fun K hK => ?_)
       refine goes_ Tryz.func37 (by kernel_rfl) rfl #[.int .i64 (wrap64 (x1_1 + 1))] (by rfl) rfl rfl zr ?_
       with_reducible refine (laws_markText.calls k1 (wrap64 (x1_1 + 1)) t410 _ A6.out).mono ?_
       rintro e w29 ⟨rfl, hb⟩
       refine ⟨_, rfl, ?_⟩
       replace HB := zs0 hb HB
       refine hK.out _ _ ⟨((HB.out.cell (World.block_lt_of_cell? w _ hw409_0)).trans hw409_0), ((HB.out.cell (World.block_lt_of_cell? w _ hw409_1)).trans hw409_1), ((HB.out.cell (World.block_lt_of_cell? w _ hw409_2)).trans hw409_2), ((HB.out.cell (World.block_lt_of_cell? w _ hw409_3)).trans hw409_3)⟩ (fun hHeld => ?_)
       clear hK K
       refine znm 27 ?_
       refine zpu 7 28 #[true, true, true, true, true, true, true, true] HT_ ?_
       refine zdn HT_ ?_
       try go_wp2
       go_ret
       exact ⟨by first | rfl | (simp [errW_none, errW_some] <;> rfl) | (simp [*, errW_none, errW_some] <;> rfl), zb0 HB.out⟩
     ·rw [if_neg c5] at H
      have c5b0 : (((rd_T67 l0 x5_1).f0) == x1_1) = false := beq_eq_false_iff_ne.mpr c5
      have c5b1 : (((rd_T67 l0 x5_1).f0) != x1_1) = true := bne_iff_ne.mpr c5
      obtain rfl := Option.some.inj H
      have p408 : 0 ≤ (x5_1 : Int) := of_decide_eq_true (by first | (with_reducible assumption) | assumption)
      have q408 : x5_1 < (l0.length : Int) := of_decide_eq_true (by first | (with_reducible assumption) | assumption)
      obtain ⟨ad408, e408, hx408_0, hx408_1, hx408_2, hx408_3⟩ := at_T67 HR0.out x5_1 p408 q408
      cases e408
      replace hx408_0 := (HB.out.cell (World.block_lt_of_cell? w _ hx408_0)).trans hx408_0
      replace hx408_1 := (HB.out.cell (World.block_lt_of_cell? w _ hx408_1)).trans hx408_1
      replace hx408_2 := (HB.out.cell (World.block_lt_of_cell? w _ hx408_2)).trans hx408_2
      replace hx408_3 := (HB.out.cell (World.block_lt_of_cell? w _ hx408_3)).trans hx408_3
      replace p408 := eq_true p408
      replace q408 := eq_true q408
      go_wp2
      go_ret
      exact ⟨by first | rfl | (simp [errW_none, errW_some] <;> rfl) | (simp [*, errW_none, errW_some] <;> rfl), zb0 HB.out⟩
    ·rw [if_neg c4] at H
     exact absurd H (by simp)
   ·rw [if_neg c3] at H
    have c3b0 : decide (x5_1 < (l0.length : Int)) = false := decide_eq_false c3
    have c3b1 : decide ((l0.length : Int) ≤ x5_1) = true := decide_eq_true (by omega)
    clear c3
    obtain rfl := Option.some.inj H
    go_wp2
    go_ret
    exact ⟨by first | rfl | (simp [errW_none, errW_some] <;> rfl) | (simp [*, errW_none, errW_some] <;> rfl), zb0 HB.out⟩

end Go.Proofs.YtogifkjkbfdocaaGreatDoor.QFnExactShedActs

namespace Go.Proofs.YtogifkjkbfdocaaGreatDoor.QFnExactShedActs
open Go.RowKit Go.Proofs.YtogifkjkbfdocaaGreatDoorW.PrintWords Go.Proofs.YtogifkjkbfdocaaGreatDoorW.PrintLast Go.Proofs.YtogifkjkbfdocaaGreatDoorW.PrintMore
attribute [local go_sem] max2_int min2_int max_two min_two max_three min_three max_four min_four   -- for this text's walks alone
open Go.Proofs.YtogifkjkbfdocaaGreatDoor.Laid
open Go.Proofs.YtogifkjkbfdocaaGreatDoor.Short
set_option linter.unusedVariables false
set_option linter.unusedSimpArgs false

/-! ### laws_FnExactShedActs: function 3 -/
def laws_FnExactShedActs.j0 : Nat → List (S67) → List (S67) → Bool → List (S90) → Option (Bool)
 | 0, _, _, _, _ => none
 | k + 1, x4, x6, x42, x416000 => if x42 = true then (some false) else ((laws_markActS.f k x6 1).bind fun bt438 => ((laws_heldActS.f k bt438.2 1).bind fun t440 => (if t440 < 0 then (some false) else (if t440 = bt438.1 then ((laws_toDisk.f k x416000).bind fun t441 => ((impl_ShedActs.f k t441).bind fun t444 => ((laws_eqActS.f k t444 x4).bind fun t447 => (if t447 = true then ((laws_heldActS.f k bt438.2 1).bind fun t448 => (if t448 < 0 then (some false) else (if t448 = bt438.1 then (some true) else (some false)))) else (some false))))) else (some false)))))
def laws_FnExactShedActs.f (k : Nat) (l0_0 : List (S90)) : Option (Bool) := (laws_szDisk.f k l0_0 1048576).bind fun t416 => (if t416 < 0 then (some true) else ((laws_toDisk.f k l0_0).bind fun t417 => ((spec_ShedActs.f k t417).bind fun t420 => ((laws_toDisk.f k l0_0).bind fun t423 => ((impl_ShedActs.f k t423).bind fun t427 => ((laws_eqActS.f k t427 t420).bind fun t430 => (if t430 = true then ((laws_toDisk.f k l0_0).bind fun t431 => ((laws_eqDisk.f k t423 t431).bind fun t434 => (if t434 = true then ((laws_markDisk.f k t423 1).bind fun bt435 => (if bt435.1 < 0 then (laws_FnExactShedActs.j0 k t420 t427 true l0_0) else ((laws_eqActS.f k t427 t420).bind fun t437 => (laws_FnExactShedActs.j0 k t420 t427 (!t437) l0_0)))) else (some false)))) else (some false))))))))
theorem laws_FnExactShedActs.mono_l : ∀ k, (∀ y0 y1 y2 y3, LeO (laws_FnExactShedActs.j0 k y0 y1 y2 y3) (laws_FnExactShedActs.j0 (k + 1) y0 y1 y2 y3))
 | 0 => fun _ _ _ _ r h => by simp [laws_FnExactShedActs.j0] at h
 | k + 1 => by
  have ih0 := laws_FnExactShedActs.mono_l k
  ·intro y0 y1 y2 y3
   unfold laws_FnExactShedActs.j0
   repeat' first
   | (with_reducible exact ih0 _ _ _ _)
   | (with_reducible exact impl_ShedActs.mono _ _)
   | (with_reducible exact laws_eqActS.mono _ _ _)
   | (with_reducible exact laws_eqDisk.mono _ _ _)
   | (with_reducible exact laws_heldActS.mono _ _ _)
   | (with_reducible exact laws_markActS.mono _ _ _)
   | (with_reducible exact laws_markDisk.mono _ _ _)
   | (with_reducible exact laws_szDisk.mono _ _ _)
   | (with_reducible exact laws_toDisk.mono _ _)
   | (with_reducible exact spec_ShedActs.mono _ _)
   | (with_reducible exact LeO.refl _)
   | (with_reducible exact LeO.none _)
   | (with_reducible refine LeO.ite ?_ ?_)
   | (with_reducible refine LeO.bind ?_ (fun _ => ?_))
   | exact ih0 _ _ _ _
   | exact impl_ShedActs.mono _ _
   | exact laws_eqActS.mono _ _ _
   | exact laws_eqDisk.mono _ _ _
   | exact laws_heldActS.mono _ _ _
   | exact laws_markActS.mono _ _ _
   | exact laws_markDisk.mono _ _ _
   | exact laws_szDisk.mono _ _ _
   | exact laws_toDisk.mono _ _
   | exact spec_ShedActs.mono _ _
   | exact LeO.none _
   | refine LeO.ite ?_ ?_
   | refine LeO.bind ?_ (fun _ => ?_)
theorem laws_FnExactShedActs.mono : ∀ a0 k, LeO (laws_FnExactShedActs.f k a0) (laws_FnExactShedActs.f (k + 1) a0) := by
 intro a0 k
 have ih0 := laws_FnExactShedActs.mono_l k
 unfold laws_FnExactShedActs.f
 repeat' first
   | (with_reducible exact ih0 _ _ _ _)
   | (with_reducible exact impl_ShedActs.mono _ _)
   | (with_reducible exact laws_eqActS.mono _ _ _)
   | (with_reducible exact laws_eqDisk.mono _ _ _)
   | (with_reducible exact laws_heldActS.mono _ _ _)
   | (with_reducible exact laws_markActS.mono _ _ _)
   | (with_reducible exact laws_markDisk.mono _ _ _)
   | (with_reducible exact laws_szDisk.mono _ _ _)
   | (with_reducible exact laws_toDisk.mono _ _)
   | (with_reducible exact spec_ShedActs.mono _ _)
   | (with_reducible exact LeO.refl _)
   | (with_reducible exact LeO.none _)
   | (with_reducible refine LeO.ite ?_ ?_)
   | (with_reducible refine LeO.bind ?_ (fun _ => ?_))
   | exact ih0 _ _ _ _
   | exact impl_ShedActs.mono _ _
   | exact laws_eqActS.mono _ _ _
   | exact laws_eqDisk.mono _ _ _
   | exact laws_heldActS.mono _ _ _
   | exact laws_markActS.mono _ _ _
   | exact laws_markDisk.mono _ _ _
   | exact laws_szDisk.mono _ _ _
   | exact laws_toDisk.mono _ _
   | exact spec_ShedActs.mono _ _
   | exact LeO.none _
   | refine LeO.ite ?_ ?_
   | refine LeO.bind ?_ (fun _ => ?_)
set_option maxHeartbeats 8000000 in
set_option maxRecDepth 100000 in
theorem laws_FnExactShedActs.calls (k : Nat) (A0_0 : Option Addr) (c0_0 : Nat) (l0_0 : List (S90)) (r : Bool) (w : World) (hr0_0 : Kd.C k90 w A0_0 l0_0.length l0_0) (hc0_0 : l0_0.length ≤ c0_0) (h : laws_FnExactShedActs.f k l0_0 = some r) (hrt : r = true := by rfl) (hLW : LaidW w) :
  Calls Tryz.prog 3 #[.agg #[.slice A0_0 l0_0.length c0_0]] w fun e w' => e = .returned (.bool r) ∧ Below w.heap.size w w' := by
 have HLW := Aside0.mk hLW
 clear hLW
 have hu24 := Tryz.underlying24
 have hu30 := Tryz.underlying30
 have HR0_0 := Aside0.mk hr0_0
 have HC0_0 := Aside0.mk hc0_0
 clear hr0_0 hc0_0
 have HB := Aside0.mk (Below.refl w.heap.size w)
 have HLT := Aside0.mk hrt
 clear hrt
 have H : ((laws_szDisk.f k l0_0 1048576).bind fun t416 => (if t416 < 0 then (some true) else ((laws_toDisk.f k l0_0).bind fun t417 => ((spec_ShedActs.f k t417).bind fun t420 => ((laws_toDisk.f k l0_0).bind fun t423 => ((impl_ShedActs.f k t423).bind fun t427 => ((laws_eqActS.f k t427 t420).bind fun t430 => (if t430 = true then ((laws_toDisk.f k l0_0).bind fun t431 => ((laws_eqDisk.f k t423 t431).bind fun t434 => (if t434 = true then ((laws_markDisk.f k t423 1).bind fun bt435 => (if bt435.1 < 0 then (laws_FnExactShedActs.j0 k t420 t427 true l0_0) else ((laws_eqActS.f k t427 t420).bind fun t437 => (laws_FnExactShedActs.j0 k t420 t427 (!t437) l0_0)))) else (some false)))) else (some false))))))))) = some r := h
 clear h
 replace H := Option.bind_eq_some_iff.mp H
 obtain ⟨t416, A20, H⟩ := H
 try dsimp only at H
 have A2 := Aside0.mk A20
 clear A20
 by_cases c3 : t416 < 0
 ·rw [if_pos c3] at H
  have c3b0 : decide (t416 < 0) = true := decide_eq_true c3
  clear c3
  obtain rfl := Option.some.inj H
  go_enter Tryz.func3, Tryz.ntmps3
  go_wp2_with (first | ((with_reducible refine gate_dst (N := 1) rfl ?_); refine box_event rfl (N := 1) rfl (cs := #[.slice A0_0 l0_0.length c0_0]) (t := 24) zrun ?_; intro gb415 hg w4 hbox hb; have BK415 := am (hbox); have GW415 := zge hg (zb0 HB.out); have GE415 := zge hg (zb0 HB.out); replace HB := zs0 hb HB; clear hb hbox hg; obtain ⟨hcz5_0, hfz5_0⟩ := zc1 BK415.out) | ((with_reducible refine gate_callee (f := 6) rfl ?_); refine goesL_ (some 13) rfl rfl Tryz.func6 (by kernel_rfl) rfl #[.agg #[.slice A0_0 l0_0.length c0_0], .int .i64 1048576] rfl zr ?_; (with_reducible refine (laws_szDisk.calls k _ _ l0_0 1048576 t416 _ ?side1 ?side2 A2.out).mono ?_); (case side1 => repeat (first | exact (Kd.C_below HR0_0.out HB.out) | (with_reducible refine Kd.C_alloc ?_ _) | (with_reducible refine Kd.C_drewN ?_ _) | (with_reducible refine Kd.C_drew ?_))); (case side2 => exact HC0_0.out); rintro e w6 ⟨rfl, hb⟩; refine ⟨_, rfl, ?_⟩; replace BK415 := zk hb BK415; replace HB := zs1 hb HB GE415; clear hb))
  go_ret
  exact ⟨by first | rfl | (simp [errW_none, errW_some] <;> rfl) | (simp [*, errW_none, errW_some] <;> rfl), zb1 HB.out GE415.out⟩
 ·rw [if_neg c3] at H
  have c3b0 : decide (t416 < 0) = false := decide_eq_false c3
  clear c3
  replace H := Option.bind_eq_some_iff.mp H
  obtain ⟨t417, A70, H⟩ := H
  try dsimp only at H
  have A7 := Aside0.mk A70
  clear A70
  replace H := Option.bind_eq_some_iff.mp H
  obtain ⟨t420, A80, H⟩ := H
  try dsimp only at H
  have A8 := Aside0.mk A80
  clear A80
  replace H := Option.bind_eq_some_iff.mp H
  obtain ⟨t423, A90, H⟩ := H
  try dsimp only at H
  have A9 := Aside0.mk A90
  clear A90
  replace H := Option.bind_eq_some_iff.mp H
  obtain ⟨t427, A100, H⟩ := H
  try dsimp only at H
  have A10 := Aside0.mk A100
  clear A100
  replace H := Option.bind_eq_some_iff.mp H
  obtain ⟨t430, A110, H⟩ := H
  try dsimp only at H
  have A11 := Aside0.mk A110
  clear A110
  by_cases c12 : t430 = true
  ·subst c12
   have H1 : ((laws_toDisk.f k l0_0).bind fun t431 => ((laws_eqDisk.f k t423 t431).bind fun t434 => (if t434 = true then ((laws_markDisk.f k t423 1).bind fun bt435 => (if bt435.1 < 0 then (laws_FnExactShedActs.j0 k t420 t427 true l0_0) else ((laws_eqActS.f k t427 t420).bind fun t437 => (laws_FnExactShedActs.j0 k t420 t427 (!t437) l0_0)))) else (some false)))) = some r := by rw [if_pos rfl] at H; exact H
   clear H
   have H := H1
   clear H1
   replace H := Option.bind_eq_some_iff.mp H
   obtain ⟨t431, A130, H⟩ := H
   try dsimp only at H
   have A13 := Aside0.mk A130
   clear A130
   replace H := Option.bind_eq_some_iff.mp H
   obtain ⟨t434, A140, H⟩ := H
   try dsimp only at H
   have A14 := Aside0.mk A140
   clear A140
   by_cases c15 : t434 = true
   ·subst c15
    have H1 : ((laws_markDisk.f k t423 1).bind fun bt435 => (if bt435.1 < 0 then (laws_FnExactShedActs.j0 k t420 t427 true l0_0) else ((laws_eqActS.f k t427 t420).bind fun t437 => (laws_FnExactShedActs.j0 k t420 t427 (!t437) l0_0)))) = some r := by rw [if_pos rfl] at H; exact H
    clear H
    have H := H1
    clear H1
    replace H := Option.bind_eq_some_iff.mp H
    obtain ⟨⟨t435, t436⟩, A160, H⟩ := H
    try dsimp only at H
    have A16 := Aside0.mk A160
    clear A160
    have HC17 := Aside0.mk H
    clear H
    go_enter Tryz.func3, Tryz.ntmps3
    try go_wp2_with (first | ((with_reducible refine gate_dst (N := 1) rfl ?_); refine box_event rfl (N := 1) rfl (cs := #[.slice A0_0 l0_0.length c0_0]) (t := 24) zrun ?_; intro gb415 hg w18 hbox hb; have BK415 := am (hbox); have GW415 := zge hg (zb0 HB.out); have GE415 := zge hg (zb0 HB.out); replace HB := zs0 hb HB; clear hb hbox hg; obtain ⟨hcz19_0, hfz19_0⟩ := zc1 BK415.out) | ((with_reducible refine gate_callee (f := 6) rfl ?_); refine goesL_ (some 13) rfl rfl Tryz.func6 (by kernel_rfl) rfl #[.agg #[.slice A0_0 l0_0.length c0_0], .int .i64 1048576] rfl zr ?_; (with_reducible refine (laws_szDisk.calls k _ _ l0_0 1048576 t416 _ ?side1 ?side2 A2.out).mono ?_); (case side1 => repeat (first | exact (Kd.C_below HR0_0.out HB.out) | (with_reducible refine Kd.C_alloc ?_ _) | (with_reducible refine Kd.C_drewN ?_ _) | (with_reducible refine Kd.C_drew ?_))); (case side2 => exact HC0_0.out); rintro e w20 ⟨rfl, hb⟩; refine ⟨_, rfl, ?_⟩; replace BK415 := zk hb BK415; replace HB := zs1 hb HB GE415; clear hb; obtain ⟨hcz21_0, hfz21_0⟩ := zc1 BK415.out) | ((with_reducible refine gate_callee (f := 8) rfl ?_); refine goesL_ (some 17) rfl rfl Tryz.func8 (by kernel_rfl) rfl #[.agg #[.slice A0_0 l0_0.length c0_0]] rfl zr ?_; (with_reducible refine (laws_toDisk.calls k _ _ l0_0 t417 _ ?side1 ?side2 A7.out).mono ?_); (case side1 => repeat (first | exact (Kd.C_below HR0_0.out HB.out) | (with_reducible refine Kd.C_alloc ?_ _) | (with_reducible refine Kd.C_drewN ?_ _) | (with_reducible refine Kd.C_drew ?_))); (case side2 => exact HC0_0.out); rintro e w22 ⟨v418, rfl, ho0, hb⟩; refine ⟨_, rfl, ?_⟩; have HO419 := am (Kd.R_lower ho0 (below_size (zb1 HB.out GE415.out))); replace BK415 := zk hb BK415; replace HB := zs1 hb HB GE415; clear hb ho0; obtain ⟨Ao23, co23, eo23⟩ := Kd.R_slice HO419.out; subst eo23) | ((with_reducible refine gate_callee (f := 7) rfl ?_); refine goesL_ (some 18) rfl rfl Tryz.func7 (by kernel_rfl) rfl #[.agg #[.slice Ao23 t417.length co23]] rfl zr ?_; (with_reducible refine (spec_ShedActs.calls k _ _ t417 t420 _ ?side1 ?side2 A8.out).mono ?_); (case side1 => repeat (first | exact (Kd.R_reads' HO419.out).2.2 | (with_reducible refine Kd.C_alloc ?_ _) | (with_reducible refine Kd.C_drewN ?_ _) | (with_reducible refine Kd.C_drew ?_))); (case side2 => exact (Kd.R_reads' HO419.out).2.1); rintro e w24 ⟨v421, rfl, ho0, hb⟩; refine ⟨_, rfl, ?_⟩; have HO422 := am (Kd.R_lower ho0 (below_size (zb1 HB.out GE415.out))); replace HO419 := am (Kd.R_below (rx HO419.out) hb); replace BK415 := zk hb BK415; replace HB := zs1 hb HB GE415; clear hb ho0; obtain ⟨hcz25_0, hfz25_0⟩ := zc1 BK415.out) | ((with_reducible refine gate_callee (f := 8) rfl ?_); refine goesL_ (some 20) rfl rfl Tryz.func8 (by kernel_rfl) rfl #[.agg #[.slice A0_0 l0_0.length c0_0]] rfl zr ?_; (with_reducible refine (laws_toDisk.calls k _ _ l0_0 t423 _ ?side1 ?side2 A9.out).mono ?_); (case side1 => repeat (first | exact (Kd.C_below HR0_0.out HB.out) | (with_reducible refine Kd.C_alloc ?_ _) | (with_reducible refine Kd.C_drewN ?_ _) | (with_reducible refine Kd.C_drew ?_))); (case side2 => exact HC0_0.out); rintro e w26 ⟨v424, rfl, ho0, hb⟩; refine ⟨_, rfl, ?_⟩; have HO425 := am (Kd.R_lower (Kd.R_new' ho0 (Kd.R_lt (rx HO419.out))) (below_size (zb1 HB.out GE415.out))); replace HO419 := am (Kd.R_elder' (rx HO419.out) (Kd.R_base ho0) hb); replace HO422 := am (Kd.R_below (rx HO422.out) hb); replace BK415 := zk hb BK415; replace HB := zs1 hb HB GE415; clear hb ho0) | ((with_reducible refine gate_dst (N := 5) rfl ?_); refine box_event rfl (N := 5) rfl (cs := #[.slice none 0 0]) (t := 30) zrun ?_; intro gb426 hg w27 hbox hb; have BK426 := am (hbox); have GE426 := zge hg (zb1 HB.out GE415.out); obtain ⟨NB415_426, NB426_415⟩ := zne hg BK415; replace HO419 := am (Kd.R_below (rx HO419.out) hb); replace HO422 := am (Kd.R_below (rx HO422.out) hb); replace HO425 := am (Kd.R_below (rx HO425.out) hb); replace BK415 := zk hb BK415; replace HB := zs1 hb HB GE415; clear hb hbox hg; obtain ⟨Ao28, co28, eo28⟩ := Kd.R_slice HO425.out; subst eo28; obtain ⟨hnb29, hnc29⟩ := zn2 NB426_415; obtain ⟨hcz30_0, hfz30_0⟩ := zc1 BK426.out) | ((with_reducible refine gate_callee (f := 9) rfl ?_); refine goesL_ (some 22) rfl rfl Tryz.func9 (by kernel_rfl) rfl #[.agg #[.slice Ao28 t423.length co28]] rfl zr ?_; (with_reducible refine (impl_ShedActs.calls k _ _ t423 t427 _ ?side1 ?side2 A10.out ?laid).mono ?_); (case laid => exact LaidW.later HLW.out (zb2 HB.out GE415.out GE426.out)); (case side1 => refine (Kd.R_reads' (e := 63) (base := w.heap.size) (ok := fun k_ => (True ∧ some k_ ≠ (.slice Ao23 t417.length co23 : Value).ownBlock)) (n := t423.length) (c := co28) ?_).2.2; exact (rx ((Kd.R_mono (Kd.R_far (p := ⟨gb426, 0, none⟩) (Kd.R_types HO425.out BK426.out (by decide)) (fun _ hk => hk.2) (.slice Ao28 t423.length co28)) (fun _ h_ => h_.1))))); (case side2 => exact (Kd.R_reads' HO425.out).2.1); rintro e w31 ⟨v428, rfl, ho0, hb⟩; refine ⟨_, rfl, ?_⟩; have HO429 := am (Kd.R_lower (Kd.R_new' ho0 (Kd.R_lt (rx ((Kd.R_mono (Kd.R_far (p := ⟨gb426, 0, none⟩) (Kd.R_types HO422.out BK426.out (by decide)) (fun _ hk => hk.2) (.slice Ao28 t423.length co28)) (fun _ h_ => h_.1)))))) (below_size (zb2 HB.out GE415.out GE426.out))); replace HO419 := am (Kd.R_below (rx ((Kd.R_mono (Kd.R_far (p := ⟨gb426, 0, none⟩) (Kd.R_types HO419.out BK426.out (by decide)) (fun _ hk => hk.2) (.slice Ao28 t423.length co28)) (fun _ h_ => h_.1)))) hb); replace HO422 := am (Kd.R_elder' (rx ((Kd.R_mono (Kd.R_far (p := ⟨gb426, 0, none⟩) (Kd.R_types HO422.out BK426.out (by decide)) (fun _ hk => hk.2) (.slice Ao28 t423.length co28)) (fun _ h_ => h_.1)))) (Kd.R_base ho0) hb); replace HO425 := am (Kd.R_below (rx ((Kd.R_mono (Kd.R_far (p := ⟨gb426, 0, none⟩) (Kd.R_types HO425.out BK426.out (by decide)) (fun _ hk => hk.2) (.slice Ao28 t423.length co28)) (fun _ h_ => h_.1)))) hb); replace BK415 := zh1 hb BK415 NB415_426; replace BK426 := am (blk_below (g := gb426) (o := .cells #[.slice Ao28 t423.length co28] 30 (0, 0)) (by (with_reducible repeat (first | refine blk_drewN ?_ _ | refine blk_drew ?_ | refine blk_alloc ?_ _)); refine blk_put (cs := #[.slice none 0 0]) ?_ 0 _ rfl; (with_reducible repeat (first | refine blk_drewN ?_ _ | refine blk_drew ?_ | refine blk_alloc ?_ _)); exact BK426.out) hb); replace HB := zs2 hb HB GE415 GE426; clear hb ho0; obtain ⟨Ao32, co32, eo32⟩ := Kd.R_slice HO429.out; subst eo32; obtain ⟨Ao33, co33, eo33⟩ := Kd.R_slice HO422.out; subst eo33) | ((with_reducible refine gate_callee (f := 10) rfl ?_); refine goesL_ (some 25) rfl rfl Tryz.func10 (by kernel_rfl) rfl #[.slice Ao32 t427.length co32, .slice Ao33 t420.length co33] rfl zr ?_; (with_reducible refine (laws_eqActS.calls k _ _ t427 _ _ t420 true _ ?side1 ?side2 ?side3 ?side4 A11.out).mono ?_); (case side1 => repeat (first | exact (Kd.R_reads' HO429.out).2.2 | (with_reducible refine Kd.C_alloc ?_ _) | (with_reducible refine Kd.C_drewN ?_ _) | (with_reducible refine Kd.C_drew ?_))); (case side2 => exact (Kd.R_reads' HO429.out).2.1); (case side3 => repeat (first | exact (Kd.R_reads' HO422.out).2.2 | (with_reducible refine Kd.C_alloc ?_ _) | (with_reducible refine Kd.C_drewN ?_ _) | (with_reducible refine Kd.C_drew ?_))); (case side4 => exact (Kd.R_reads' HO422.out).2.1); rintro e w34 ⟨rfl, hb⟩; refine ⟨_, rfl, ?_⟩; replace HO419 := am (Kd.R_below (rx HO419.out) hb); replace HO422 := am (Kd.R_below (rx HO422.out) hb); replace HO425 := am (Kd.R_below (rx HO425.out) hb); replace HO429 := am (Kd.R_below (rx HO429.out) hb); replace BK415 := zk hb BK415; replace BK426 := zk hb BK426; replace HB := zs2 hb HB GE415 GE426; clear hb))
    replace HO419 := am (Kd.R_drew HO419.out)
    replace HO422 := am (Kd.R_drew HO422.out)
    replace HO425 := am (Kd.R_drew HO425.out)
    replace HO429 := am (Kd.R_drew HO429.out)
    replace BK415 := am (blk_drew BK415.out)
    replace BK426 := am (blk_drew BK426.out)
    replace HB := am (below_drew1 HB.out)
    refine start_ (n := 5) (S := fun w' => w'.cell? ⟨gb426, 0, none⟩ = some (.slice Ao28 t423.length co28) ∧ w'.cell? ⟨gb415, 0, none⟩ = some (.slice A0_0 l0_0.length c0_0)) (ds := []) #[false, false, false, false, false] (by kernel_rfl) rfl rfl ⟨ct BK426.out 0, ct BK415.out 0⟩ (fun hHeld => ?_)
    generalize w34.drew = w35 at HO419 HO422 HO425 HO429 BK415 BK426 HB hHeld ⊢
    refine take_ (i := 0) (N := some 27) (v := ?_) (a' := ?_) #[true, false, false, false, false] rfl rfl (by kernel_rfl) (fun _ _ _ h => h) (Or.inl ⟨by rfl, ?_⟩) hHeld ?_ ?_
    rotate_left
    ·rintro w' ⟨s0, s1⟩
     go_simp
     with_reducible rfl
    rotate_left
    ·simp only [Act.put, List.setIfInBounds_toArray, List.set_cons_zero, List.set_cons_succ, i64_w, i32_w]
     rfl
    refine take_ (i := 1) (N := some 28) (v := ?_) (a' := ?_) #[true, true, false, false, false] rfl rfl (by kernel_rfl) (fun _ _ _ h => h) (Or.inl ⟨by rfl, ?_⟩) hHeld ?_ ?_
    rotate_left
    ·rintro w' ⟨s0, s1⟩
     go_simp
     with_reducible rfl
    rotate_left
    ·simp only [Act.put, List.setIfInBounds_toArray, List.set_cons_zero, List.set_cons_succ, i64_w, i32_w]
     rfl
    refine one_ (i := 2) (N := some 29) #[true, true, true, false, false] rfl rfl (by kernel_rfl) (by decide) (fun K hK => ?_)
    refine goes_ Tryz.func8 (by kernel_rfl) rfl #[.agg #[.slice A0_0 l0_0.length c0_0]] (by rfl) rfl rfl zr ?_
    with_reducible refine (laws_toDisk.calls k _ _ l0_0 t431 _ ?side1 ?side2 A13.out).mono ?_
    (case side1 => repeat (first | exact (Kd.C_below HR0_0.out HB.out) | (with_reducible refine Kd.C_alloc ?_ _) | (with_reducible refine Kd.C_drewN ?_ _) | (with_reducible refine Kd.C_drew ?_)))
    (case side2 => exact HC0_0.out)
    rintro e w36 ⟨v432, rfl, ho0, hb⟩
    refine ⟨_, rfl, ?_⟩
    have HO433 := am (Kd.R_lower (Kd.R_new' (Kd.R_new' ho0 (Kd.R_lt (rx HO419.out))) (Kd.R_lt (rx HO425.out))) (below_size (zb2 HB.out GE415.out GE426.out)))
    replace HO419 := am (Kd.R_elder' (rx HO419.out) (Kd.R_base ho0) hb)
    replace HO422 := am (Kd.R_below (rx HO422.out) hb)
    replace HO425 := am (Kd.R_elder' (rx HO425.out) (Kd.R_base ho0) hb)
    replace HO429 := am (Kd.R_below (rx HO429.out) hb)
    replace BK415 := zk hb BK415
    replace BK426 := zk hb BK426
    replace HB := zs2 hb HB GE415 GE426
    obtain ⟨Ao37, co37, eo37⟩ := Kd.R_slice HO433.out
    (first | subst eo37 | (injection eo37 with f1_ f2_ f3_; have f4_ := f1_.symm; have f5_ := f3_.symm; clear f1_ f2_ f3_; subst f4_; subst f5_))
    refine hK.out _ _ ⟨ct BK426.out 0, ct BK415.out 0⟩ (fun hHeld => ?_)
    clear hK K
    refine znm 29 ?_
    refine one_ (i := 3) (N := some 30) #[true, true, true, true, false] rfl rfl (by kernel_rfl) (by decide) (fun K hK => ?_)
    refine goes_ Tryz.func11 (by kernel_rfl) rfl #[.agg #[.slice Ao28 t423.length co28], .agg #[.slice Ao37 t431.length co37]] (by rfl) rfl rfl zr ?_
    with_reducible refine (laws_eqDisk.calls k _ _ t423 _ _ t431 true _ ?side1 ?side2 ?side3 ?side4 A14.out).mono ?_
    (case side1 => repeat (first | exact (Kd.R_reads' HO425.out).2.2 | (with_reducible refine Kd.C_alloc ?_ _) | (with_reducible refine Kd.C_drewN ?_ _) | (with_reducible refine Kd.C_drew ?_)))
    (case side2 => exact (Kd.R_reads' HO425.out).2.1)
    (case side3 => repeat (first | exact (Kd.R_reads' HO433.out).2.2 | (with_reducible refine Kd.C_alloc ?_ _) | (with_reducible refine Kd.C_drewN ?_ _) | (with_reducible refine Kd.C_drew ?_)))
    (case side4 => exact (Kd.R_reads' HO433.out).2.1)
    rintro e w38 ⟨rfl, hb⟩
    refine ⟨_, rfl, ?_⟩
    replace HO419 := am (Kd.R_below (rx HO419.out) hb)
    replace HO422 := am (Kd.R_below (rx HO422.out) hb)
    replace HO425 := am (Kd.R_below (rx HO425.out) hb)
    replace HO429 := am (Kd.R_below (rx HO429.out) hb)
    replace HO433 := am (Kd.R_below (rx HO433.out) hb)
    replace BK415 := zk hb BK415
    replace BK426 := zk hb BK426
    replace HB := zs2 hb HB GE415 GE426
    refine hK.out _ _ ⟨ct BK426.out 0, ct BK415.out 0⟩ (fun hHeld => ?_)
    clear hK K
    refine znm 30 ?_
    refine pure_ (i := 4) (N := some 31) (v := ?_) (a' := ?_) #[true, true, true, true, true] rfl rfl (by kernel_rfl) (fun _ _ _ h => h) (Or.inl ⟨by rfl, ?_⟩) ?_ ?_
    rotate_left
    ·intro w'
     go_simp
     with_reducible rfl
    rotate_left
    ·simp only [Act.put, List.setIfInBounds_toArray, List.set_cons_zero, List.set_cons_succ, i64_w, i32_w]
     rfl
    refine done_ (by kernel_rfl) ?_
    obtain ⟨hcz39_0, hfz39_0⟩ := zc1 BK426.out
    go_upto_region 14 with (first | ((with_reducible refine gate_callee (f := 12) rfl ?_); refine goesL_ (some 34) rfl rfl Tryz.func12 (by kernel_rfl) rfl #[.agg #[.slice Ao28 t423.length co28], .int .i64 1] rfl zr ?_; (with_reducible refine (laws_markDisk.calls k (fun k_ => some k_ = (.slice Ao28 t423.length co28 : Value).ownBlock) (.slice Ao28 t423.length co28) t423 1 t435 t436 w _ ?side1 ?side2 A16.out).mono ?_); (case side1 => repeat (first | (with_reducible first | exact HB.out | apply below_alloc | apply pw_below_drewN | apply below_drew1 | refine below_set ?_ GE415.out | refine below_set ?_ GE426.out) | exact HB.out)); (case side2 => exact Kd.R_tight rfl HO425.out); rintro e w40 ⟨rfl, hy0, hb, hkp⟩; refine ⟨_, rfl, ?_⟩; replace BK415 := am (blk_kept (kx BK415.out) hkp (fun hs_ => (fun e_ => (Kd.R_ne HO425.out BK415.out (by decide)) e_) hs_)); replace HO419 := am (Kd.R_mono (ok' := fun k_ => some k_ ≠ (.slice Ao28 t423.length co28 : Value).ownBlock ∧ some k_ ≠ (.slice Ao37 t431.length co37 : Value).ownBlock) (Kd.R_keptB (HO419.out) hkp (fun k_ hk_ hs_ => (hk_.1.2) hs_)) (fun k_ hk_ => ⟨hk_.1.1.2, hk_.1.2⟩)); replace HO422 := am (Kd.R_mono (ok' := fun k_ => some k_ ≠ (.slice Ao32 t427.length co32 : Value).ownBlock) (Kd.R_keptB ((Kd.R_apart' HO422.out (Kd.R_typed HO425.out) (by decide))) hkp (fun k_ hk_ hs_ => (hk_.2) hs_)) (fun k_ hk_ => hk_.1.1.2)); replace BK426 := am (blk_kept (kx BK426.out) hkp (fun hs_ => (fun e_ => (Kd.R_ne HO425.out BK426.out (by decide)) e_) hs_)); replace HO429 := am (Kd.R_mono (ok' := fun k_ => some k_ ≠ (.slice Ao33 t420.length co33 : Value).ownBlock) (Kd.R_keptB ((Kd.R_apart' HO429.out (Kd.R_typed HO425.out) (by decide))) hkp (fun k_ hk_ hs_ => (hk_.2) hs_)) (fun k_ hk_ => hk_.1.1.2)); replace HO425 := am (Kd.R_reok rfl hy0 (fun k_ e_ => HO425.out.1 k_ e_)); replace HO433 := am (Kd.R_mono (ok' := fun k_ => some k_ ≠ (.slice Ao23 t417.length co23 : Value).ownBlock ∧ some k_ ≠ (.slice Ao28 t423.length co28 : Value).ownBlock) (Kd.R_keptB (HO433.out) hkp (fun k_ hk_ hs_ => (hk_.2) hs_)) (fun k_ hk_ => ⟨hk_.1.1.2, hk_.1.2⟩)); replace HB := am (hb); clear hb hkp hy0))
    (try simp only [Act.put, List.setIfInBounds_toArray, List.set_cons_zero, List.set_cons_succ])
    go_cut [42] (fun v42 wc => ∃ (kq : Nat) (x42_16 : Bool), v42 = .bool x42_16 ∧ Aside0 (laws_FnExactShedActs.j0 kq t420 t427 x42_16 l0_0 = some r) ∧ Aside0 (kq ≤ k) ∧ Aside0 (Kd.R k67 67 wc w.heap.size (fun k_ => some k_ ≠ ((.slice Ao32 t427.length co32) : Value).ownBlock) (.slice Ao33 t420.length co33) t420) ∧ Aside0 (Kd.R k67 67 wc w.heap.size (fun k_ => some k_ ≠ ((.slice Ao33 t420.length co33) : Value).ownBlock) (.slice Ao32 t427.length co32) t427) ∧ Aside0 (Kd.R k63 63 wc w.heap.size (fun _ => True) (.slice Ao28 t423.length co28) t436) ∧ Aside0 (wc.heap[gb415]? = some (.cells #[(.slice A0_0 l0_0.length c0_0)] 24 (0, 0))) ∧ Aside0 (wc.heap[gb426]? = some (.cells #[(.slice Ao28 t423.length co28)] 30 (0, 0))) ∧ Aside0 (Below w.heap.size w wc))
    case first =>
     have H := HC17.out
     clear HC17
     by_cases c41 : t435 < 0
     ·rw [if_pos c41] at H
      have c41b0 : decide (t435 < 0) = true := decide_eq_true c41
      clear c41
      (first | rw [c41b0] | (simp only [i64_w, i32_w]; rw [c41b0]) | skip)
      have H' := Aside0.mk H
      clear H
      go_wp2
      go_meet
      case rel => exact ⟨_, (true), (by first | rfl | (simp; done) | (simp [*]; done)), H', ⟨by first | omega | exact Nat.le_refl _⟩, ⟨rx HO422.out⟩, ⟨rx HO429.out⟩, ⟨rx (Kd.R_mono HO425.out (fun _ hk => trivial))⟩, ⟨kx BK415.out⟩, ⟨kx BK426.out⟩, ⟨zb2 HB.out GE415.out GE426.out⟩⟩
     ·rw [if_neg c41] at H
      have c41b0 : decide (t435 < 0) = false := decide_eq_false c41
      clear c41
      (first | rw [c41b0] | (simp only [i64_w, i32_w]; rw [c41b0]) | skip)
      replace H := Option.bind_eq_some_iff.mp H
      obtain ⟨t437, A420, H⟩ := H
      try dsimp only at H
      have A42 := Aside0.mk A420
      clear A420
      have H' := Aside0.mk H
      clear H
      go_wp2_with (first | (go_at_call 10; (with_reducible refine (laws_eqActS.calls k _ _ t427 _ _ t420 t437 _ ?side1 ?side2 ?side3 ?side4 A42.out).mono ?_); (case side1 => repeat (first | exact (Kd.R_reads' HO429.out).2.2 | (with_reducible refine Kd.C_alloc ?_ _) | (with_reducible refine Kd.C_drewN ?_ _) | (with_reducible refine Kd.C_drew ?_))); (case side2 => exact (Kd.R_reads' HO429.out).2.1); (case side3 => repeat (first | exact (Kd.R_reads' HO422.out).2.2 | (with_reducible refine Kd.C_alloc ?_ _) | (with_reducible refine Kd.C_drewN ?_ _) | (with_reducible refine Kd.C_drew ?_))); (case side4 => exact (Kd.R_reads' HO422.out).2.1); rintro e w43 ⟨rfl, hb⟩; replace HO419 := am (Kd.R_below (rx HO419.out) hb); replace HO422 := am (Kd.R_below (rx HO422.out) hb); replace HO425 := am (Kd.R_below (rx HO425.out) hb); replace HO429 := am (Kd.R_below (rx HO429.out) hb); replace HO433 := am (Kd.R_below (rx HO433.out) hb); replace BK415 := zk hb BK415; replace BK426 := zk hb BK426; replace HB := zs2 hb HB GE415 GE426; clear hb))
      go_meet
      case rel => exact ⟨_, (!t437), (by first | rfl | (simp; done) | (simp [*]; done)), H', ⟨by first | omega | exact Nat.le_refl _⟩, ⟨rx HO422.out⟩, ⟨rx HO429.out⟩, ⟨rx (Kd.R_mono HO425.out (fun _ hk => trivial))⟩, ⟨kx BK415.out⟩, ⟨kx BK426.out⟩, ⟨zb2 HB.out GE415.out GE426.out⟩⟩
    case rest =>
     clear HC17
     obtain ⟨kq, x42_16, rfl, HA, HJ16, HO_4, HO_6, HO_427000, BK415, BK426, HB⟩ := hcut
     have hl427000_16 := (Kd.R_reads' HO_427000.out).1
     rw [hl427000_16] at HO_427000
     (try simp only [hl427000_16])
     (try simp only [hl427000_16] at BK415)
     (try simp only [hl427000_16] at BK426)
     (try simp only [hl427000_16] at HO_4)
     (try simp only [hl427000_16] at HO_6)
     cases kq with
     | zero => exact absurd HA.out (by simp [laws_FnExactShedActs.j0])
     | succ kj16 =>
      have H := HA.out
      clear HA
      simp only [laws_FnExactShedActs.j0] at H
      by_cases c44 : x42_16 = true
      ·subst c44
       have H1 : (some false) = some r := by rw [if_pos rfl] at H; exact H
       clear H
       have H := H1
       clear H1
       exact absurd ((Option.some.inj H).trans HLT.out) (by decide)
      ·replace c44 := Bool.eq_false_iff.mpr c44
       subst c44
       have H1 : ((laws_markActS.f kj16 t427 1).bind fun bt438 => ((laws_heldActS.f kj16 bt438.2 1).bind fun t440 => (if t440 < 0 then (some false) else (if t440 = bt438.1 then ((laws_toDisk.f kj16 l0_0).bind fun t441 => ((impl_ShedActs.f kj16 t441).bind fun t444 => ((laws_eqActS.f kj16 t444 t420).bind fun t447 => (if t447 = true then ((laws_heldActS.f kj16 bt438.2 1).bind fun t448 => (if t448 < 0 then (some false) else (if t448 = bt438.1 then (some true) else (some false)))) else (some false))))) else (some false))))) = some r := by rw [if_neg (show ¬ (false = true) by decide)] at H; exact H
       clear H
       have H := H1
       clear H1
       replace H := Option.bind_eq_some_iff.mp H
       obtain ⟨⟨t438, t439⟩, A450, H⟩ := H
       try dsimp only at H
       have A45 := Aside0.mk A450
       clear A450
       replace H := Option.bind_eq_some_iff.mp H
       obtain ⟨t440, A460, H⟩ := H
       try dsimp only at H
       have A46 := Aside0.mk A460
       clear A460
       by_cases c47 : t440 < 0
       ·rw [if_pos c47] at H
        have c47b0 : decide (t440 < 0) = true := decide_eq_true c47
        clear c47
        exact absurd ((Option.some.inj H).trans HLT.out) (by decide)
       ·rw [if_neg c47] at H
        have c47b0 : decide (t440 < 0) = false := decide_eq_false c47
        clear c47
        by_cases c48 : t440 = t438
        ·rw [if_pos c48] at H
         have c48b0 : (t440 == t438) = true := beq_iff_eq.mpr c48
         have c48b1 : (t440 != t438) = false := bne_eq_false_iff_eq.mpr c48
         clear c48
         replace H := Option.bind_eq_some_iff.mp H
         obtain ⟨t441, A490, H⟩ := H
         try dsimp only at H
         have A49 := Aside0.mk A490
         clear A490
         replace H := Option.bind_eq_some_iff.mp H
         obtain ⟨t444, A500, H⟩ := H
         try dsimp only at H
         have A50 := Aside0.mk A500
         clear A500
         replace H := Option.bind_eq_some_iff.mp H
         obtain ⟨t447, A510, H⟩ := H
         try dsimp only at H
         have A51 := Aside0.mk A510
         clear A510
         by_cases c52 : t447 = true
         ·subst c52
          have H1 : ((laws_heldActS.f kj16 t439 1).bind fun t448 => (if t448 < 0 then (some false) else (if t448 = t438 then (some true) else (some false)))) = some r := by rw [if_pos rfl] at H; exact H
          clear H
          have H := H1
          clear H1
          replace H := Option.bind_eq_some_iff.mp H
          obtain ⟨t448, A530, H⟩ := H
          try dsimp only at H
          have A53 := Aside0.mk A530
          clear A530
          by_cases c54 : t448 < 0
          ·rw [if_pos c54] at H
           have c54b0 : decide (t448 < 0) = true := decide_eq_true c54
           clear c54
           exact absurd ((Option.some.inj H).trans HLT.out) (by decide)
          ·rw [if_neg c54] at H
           have c54b0 : decide (t448 < 0) = false := decide_eq_false c54
           clear c54
           by_cases c55 : t448 = t438
           ·rw [if_pos c55] at H
            have c55b0 : (t448 == t438) = true := beq_iff_eq.mpr c55
            have c55b1 : (t448 != t438) = false := bne_eq_false_iff_eq.mpr c55
            clear c55
            obtain rfl := Option.some.inj H
            go_wp2_with (first | ((with_reducible refine gate_callee (f := 13) rfl ?_); refine goesL_ (some 45) rfl rfl Tryz.func13 (by kernel_rfl) rfl #[.slice Ao32 t427.length co32, .int .i64 1] rfl zr ?_; (with_reducible refine (laws_markActS.calls kj16 (fun k_ => some k_ = (.slice Ao32 t427.length co32 : Value).ownBlock) (.slice Ao32 t427.length co32) t427 1 t438 t439 w _ ?side1 ?side2 A45.out).mono ?_); (case side1 => repeat (first | (with_reducible first | exact HB.out | apply below_alloc | apply pw_below_drewN | apply below_drew1 | refine below_set ?_ GE415.out | refine below_set ?_ GE426.out) | exact HB.out)); (case side2 => exact Kd.R_tight rfl HO_6.out); rintro e w56 ⟨rfl, hy0, hb, hkp⟩; refine ⟨_, rfl, ?_⟩; replace HO_4 := am (Kd.R_mono (ok' := fun k_ => some k_ ≠ (.slice Ao32 t427.length co32 : Value).ownBlock) (Kd.R_keptB (HO_4.out) hkp (fun k_ hk_ hs_ => (hk_) hs_)) (fun k_ hk_ => hk_.1)); replace HO_427000 := am (Kd.R_mono (ok' := fun k_ => True) (Kd.R_keptB ((Kd.R_apart' HO_427000.out (Kd.R_typed HO_6.out) (by decide))) hkp (fun k_ hk_ hs_ => (hk_.2) hs_)) (fun k_ hk_ => trivial)); replace BK415 := am (blk_kept (kx BK415.out) hkp (fun hs_ => (fun e_ => (Kd.R_ne HO_6.out BK415.out (by decide)) e_) hs_)); replace BK426 := am (blk_kept (kx BK426.out) hkp (fun hs_ => (fun e_ => (Kd.R_ne HO_6.out BK426.out (by decide)) e_) hs_)); replace HO_6 := am (Kd.R_reok rfl hy0 (fun k_ e_ => HO_6.out.1 k_ e_)); replace HB := am (hb); clear hb hkp hy0) | ((with_reducible refine gate_callee (f := 14) rfl ?_); refine goesL_ (some 48) rfl rfl Tryz.func14 (by kernel_rfl) rfl #[.slice Ao32 t439.length co32, .int .i64 1] rfl (by (try simp only [List.map_toArray, List.map_cons, List.map_nil]); first | done | (rw [show t439.length = t427.length from (Kd.R_reads' HO_6.out).1.symm] <;> rfl) | rfl | (simp only [List.length_drop, List.length_take]; rfl)) ?_; (with_reducible refine (laws_heldActS.calls kj16 _ _ t439 1 t440 _ ?side1 ?side2 A46.out).mono ?_); (case side1 => repeat (first | exact (Kd.R_reads' HO_6.out).2.2 | (with_reducible refine Kd.C_alloc ?_ _) | (with_reducible refine Kd.C_drewN ?_ _) | (with_reducible refine Kd.C_drew ?_))); (case side2 => rw [show t439.length = t427.length from (Kd.R_reads' HO_6.out).1.symm]; exact (Kd.R_reads' HO_6.out).2.1); rintro e w57 ⟨rfl, hb⟩; refine ⟨_, rfl, ?_⟩; replace HO_4 := am (Kd.R_below (rx HO_4.out) hb); replace HO_6 := am (Kd.R_below (rx HO_6.out) hb); replace HO_427000 := am (Kd.R_below (rx HO_427000.out) hb); replace BK415 := zk hb BK415; replace BK426 := zk hb BK426; replace HB := zs2 hb HB GE415 GE426; clear hb; obtain ⟨hnb58, hnc58⟩ := zn2 NB415_426; obtain ⟨hcz59_0, hfz59_0⟩ := zc1 BK415.out) | ((with_reducible refine gate_callee (f := 8) rfl ?_); refine goesL_ (some 55) rfl rfl Tryz.func8 (by kernel_rfl) rfl #[.agg #[.slice A0_0 l0_0.length c0_0]] rfl zr ?_; (with_reducible refine (laws_toDisk.calls kj16 _ _ l0_0 t441 _ ?side1 ?side2 A49.out).mono ?_); (case side1 => repeat (first | exact (Kd.C_below HR0_0.out HB.out) | (with_reducible refine Kd.C_alloc ?_ _) | (with_reducible refine Kd.C_drewN ?_ _) | (with_reducible refine Kd.C_drew ?_))); (case side2 => exact HC0_0.out); rintro e w60 ⟨v442, rfl, ho0, hb⟩; refine ⟨_, rfl, ?_⟩; have HO443 := am (Kd.R_lower (Kd.R_new' ho0 (Kd.R_lt (rx HO_427000.out))) (below_size (zb2 HB.out GE415.out GE426.out))); replace HO_4 := am (Kd.R_below (rx HO_4.out) hb); replace HO_6 := am (Kd.R_below (rx HO_6.out) hb); replace HO_427000 := am (Kd.R_elder' (rx HO_427000.out) (Kd.R_base ho0) hb); replace BK415 := zk hb BK415; replace BK426 := zk hb BK426; replace HB := zs2 hb HB GE415 GE426; clear hb ho0; obtain ⟨Ao61, co61, eo61⟩ := Kd.R_slice HO443.out; subst eo61) | ((with_reducible refine gate_callee (f := 9) rfl ?_); refine goesL_ (some 56) rfl rfl Tryz.func9 (by kernel_rfl) rfl #[.agg #[.slice Ao61 t441.length co61]] rfl zr ?_; (with_reducible refine (impl_ShedActs.calls kj16 _ _ t441 t444 _ ?side1 ?side2 A50.out ?laid).mono ?_); (case laid => exact LaidW.later HLW.out (zb2 HB.out GE415.out GE426.out)); (case side1 => repeat (first | exact (Kd.R_reads' HO443.out).2.2 | (with_reducible refine Kd.C_alloc ?_ _) | (with_reducible refine Kd.C_drewN ?_ _) | (with_reducible refine Kd.C_drew ?_))); (case side2 => exact (Kd.R_reads' HO443.out).2.1); rintro e w62 ⟨v445, rfl, ho0, hb⟩; refine ⟨_, rfl, ?_⟩; have HO446 := am (Kd.R_lower (Kd.R_new' (Kd.R_new' ho0 (Kd.R_lt (rx HO_4.out))) (Kd.R_lt (rx HO_6.out))) (below_size (zb2 HB.out GE415.out GE426.out))); replace HO_4 := am (Kd.R_elder' (rx HO_4.out) (Kd.R_base ho0) hb); replace HO_6 := am (Kd.R_elder' (rx HO_6.out) (Kd.R_base ho0) hb); replace HO_427000 := am (Kd.R_below (rx HO_427000.out) hb); replace HO443 := am (Kd.R_below (rx HO443.out) hb); replace BK415 := zk hb BK415; replace BK426 := zk hb BK426; replace HB := zs2 hb HB GE415 GE426; clear hb ho0; obtain ⟨Ao63, co63, eo63⟩ := Kd.R_slice HO446.out; subst eo63) | ((with_reducible refine gate_callee (f := 10) rfl ?_); refine goesL_ (some 59) rfl rfl Tryz.func10 (by kernel_rfl) rfl #[.slice Ao63 t444.length co63, .slice Ao33 t420.length co33] rfl zr ?_; (with_reducible refine (laws_eqActS.calls kj16 _ _ t444 _ _ t420 true _ ?side1 ?side2 ?side3 ?side4 A51.out).mono ?_); (case side1 => repeat (first | exact (Kd.R_reads' HO446.out).2.2 | (with_reducible refine Kd.C_alloc ?_ _) | (with_reducible refine Kd.C_drewN ?_ _) | (with_reducible refine Kd.C_drew ?_))); (case side2 => exact (Kd.R_reads' HO446.out).2.1); (case side3 => repeat (first | exact (Kd.R_reads' HO_4.out).2.2 | (with_reducible refine Kd.C_alloc ?_ _) | (with_reducible refine Kd.C_drewN ?_ _) | (with_reducible refine Kd.C_drew ?_))); (case side4 => exact (Kd.R_reads' HO_4.out).2.1); rintro e w64 ⟨rfl, hb⟩; refine ⟨_, rfl, ?_⟩; replace HO_4 := am (Kd.R_below (rx HO_4.out) hb); replace HO_6 := am (Kd.R_below (rx HO_6.out) hb); replace HO_427000 := am (Kd.R_below (rx HO_427000.out) hb); replace HO443 := am (Kd.R_below (rx HO443.out) hb); replace HO446 := am (Kd.R_below (rx HO446.out) hb); replace BK415 := zk hb BK415; replace BK426 := zk hb BK426; replace HB := zs2 hb HB GE415 GE426; clear hb) | ((with_reducible refine gate_callee (f := 14) rfl ?_); refine goesL_ (some 63) rfl rfl Tryz.func14 (by kernel_rfl) rfl #[.slice Ao32 t439.length co32, .int .i64 1] rfl (by (try simp only [List.map_toArray, List.map_cons, List.map_nil]); first | done | (rw [show t439.length = t427.length from (Kd.R_reads' HO_6.out).1.symm] <;> rfl) | rfl | (simp only [List.length_drop, List.length_take]; rfl)) ?_; (with_reducible refine (laws_heldActS.calls kj16 _ _ t439 1 t448 _ ?side1 ?side2 A53.out).mono ?_); (case side1 => repeat (first | exact (Kd.R_reads' HO_6.out).2.2 | (with_reducible refine Kd.C_alloc ?_ _) | (with_reducible refine Kd.C_drewN ?_ _) | (with_reducible refine Kd.C_drew ?_))); (case side2 => rw [show t439.length = t427.length from (Kd.R_reads' HO_6.out).1.symm]; exact (Kd.R_reads' HO_6.out).2.1); rintro e w65 ⟨rfl, hb⟩; refine ⟨_, rfl, ?_⟩; replace HO_4 := am (Kd.R_below (rx HO_4.out) hb); replace HO_6 := am (Kd.R_below (rx HO_6.out) hb); replace HO_427000 := am (Kd.R_below (rx HO_427000.out) hb); replace HO443 := am (Kd.R_below (rx HO443.out) hb); replace HO446 := am (Kd.R_below (rx HO446.out) hb); replace BK415 := zk hb BK415; replace BK426 := zk hb BK426; replace HB := zs2 hb HB GE415 GE426; clear hb))
            go_ret
            exact ⟨by first | rfl | (simp [errW_none, errW_some] <;> rfl) | (simp [*, errW_none, errW_some] <;> rfl), zb2 HB.out GE415.out GE426.out⟩
           ·rw [if_neg c55] at H
            have c55b0 : (t448 == t438) = false := beq_eq_false_iff_ne.mpr c55
            have c55b1 : (t448 != t438) = true := bne_iff_ne.mpr c55
            exact absurd ((Option.some.inj H).trans HLT.out) (by decide)
         ·replace c52 := Bool.eq_false_iff.mpr c52
          subst c52
          have H1 : (some false) = some r := by rw [if_neg (show ¬ (false = true) by decide)] at H; exact H
          clear H
          have H := H1
          clear H1
          exact absurd ((Option.some.inj H).trans HLT.out) (by decide)
        ·rw [if_neg c48] at H
         have c48b0 : (t440 == t438) = false := beq_eq_false_iff_ne.mpr c48
         have c48b1 : (t440 != t438) = true := bne_iff_ne.mpr c48
         exact absurd ((Option.some.inj H).trans HLT.out) (by decide)
   ·replace c15 := Bool.eq_false_iff.mpr c15
    subst c15
    have H1 : (some false) = some r := by rw [if_neg (show ¬ (false = true) by decide)] at H; exact H
    clear H
    have H := H1
    clear H1
    exact absurd ((Option.some.inj H).trans HLT.out) (by decide)
  ·replace c12 := Bool.eq_false_iff.mpr c12
   subst c12
   have H1 : (some false) = some r := by rw [if_neg (show ¬ (false = true) by decide)] at H; exact H
   clear H
   have H := H1
   clear H1
   exact absurd ((Option.some.inj H).trans HLT.out) (by decide)

end Go.Proofs.YtogifkjkbfdocaaGreatDoor.QFnExactShedActs
