/- Written by the kit's print.py, called by our own print2.sh with one import more; not by print.sh. -/
import Derived.Test.YtklbkkoojkmjbaaQFnActsx0
import Derived.Test.YtklbkkoojkmjbaaQFnActsx1
import Derived.Test.YtklbkkoojkmjbaaQFnActsx2
namespace Go.Proofs.Ytklbkkoojkmjbaa.QFnActs
open Go.RowKit Go.Proofs.YtklbkkoojkmjbaaW.PrintWords Go.Proofs.YtklbkkoojkmjbaaW.PrintLast Go.Proofs.YtklbkkoojkmjbaaW.PrintMore
attribute [local go_sem] max2_int min2_int max_two min_two max_three min_three max_four min_four   -- for this text's walks alone
open Go.Proofs.Ytklbkkoojkmjbaa.Short
set_option linter.unusedVariables false
set_option linter.unusedSimpArgs false

attribute [local go_sem high] eqA66
/-! ### laws_sameDisk: function 24 -/
def laws_sameDisk.l0 : Nat → Int → List (S66) → List (S66) → Option (Bool)
 | 0, _, _, _ => none
 | k + 1, x5, x468000, x469000 => if x5 < (x468000.length : Int) then (if 0 ≤ x5 then (if x5 < (x469000.length : Int) then (if (!((((rd_T66 x468000 x5).f0).toList) == (((rd_T66 x469000 x5).f0).toList)) || (!((((rd_T66 x468000 x5).f1).toList) == (((rd_T66 x469000 x5).f1).toList)) || (!(((rd_T66 x468000 x5).f2) == ((rd_T66 x469000 x5).f2))))) = true then (some false) else (laws_sameDisk.l0 k (wrap64 (x5 + 1)) x468000 x469000)) else (none)) else (none)) else (some true)
def laws_sameDisk.f (k : Nat) (l0_0 : List (S66)) (l1_0 : List (S66)) : Option (Bool) := if (l0_0.length : Int) = (l1_0.length : Int) then (laws_sameDisk.l0 k 0 l0_0 l1_0) else (some false)
theorem laws_sameDisk.mono_l : ∀ k, (∀ y0 y1 y2, LeO (laws_sameDisk.l0 k y0 y1 y2) (laws_sameDisk.l0 (k + 1) y0 y1 y2))
 | 0 => fun _ _ _ r h => by simp [laws_sameDisk.l0] at h
 | k + 1 => by
  have ih0 := laws_sameDisk.mono_l k
  ·intro y0 y1 y2
   unfold laws_sameDisk.l0
   repeat' first
   | (with_reducible exact ih0 _ _ _)
   | (with_reducible exact LeO.refl _)
   | (with_reducible exact LeO.none _)
   | (with_reducible refine LeO.ite ?_ ?_)
   | (with_reducible refine LeO.bind ?_ (fun _ => ?_))
   | exact ih0 _ _ _
   | exact LeO.none _
   | refine LeO.ite ?_ ?_
   | refine LeO.bind ?_ (fun _ => ?_)
theorem laws_sameDisk.mono : ∀ a0 a1 k, LeO (laws_sameDisk.f k a0 a1) (laws_sameDisk.f (k + 1) a0 a1) := by
 intro a0 a1 k
 have ih0 := laws_sameDisk.mono_l k
 unfold laws_sameDisk.f
 repeat' first
   | (with_reducible exact ih0 _ _ _)
   | (with_reducible exact LeO.refl _)
   | (with_reducible exact LeO.none _)
   | (with_reducible refine LeO.ite ?_ ?_)
   | (with_reducible refine LeO.bind ?_ (fun _ => ?_))
   | exact ih0 _ _ _
   | exact LeO.none _
   | refine LeO.ite ?_ ?_
   | refine LeO.bind ?_ (fun _ => ?_)
set_option maxHeartbeats 8000000 in
set_option maxRecDepth 100000 in
theorem laws_sameDisk.calls (k : Nat) (A0_0 : Option Addr) (c0_0 : Nat) (l0_0 : List (S66)) (A1_0 : Option Addr) (c1_0 : Nat) (l1_0 : List (S66)) (r : Bool) (w : World) (hr0_0 : Kd.C k66 w A0_0 l0_0.length l0_0) (hc0_0 : l0_0.length ≤ c0_0) (hr1_0 : Kd.C k66 w A1_0 l1_0.length l1_0) (hc1_0 : l1_0.length ≤ c1_0) (h : laws_sameDisk.f k l0_0 l1_0 = some r) :
  Calls Try.prog 24 #[.agg #[.slice A0_0 l0_0.length c0_0], .agg #[.slice A1_0 l1_0.length c1_0]] w fun e w' => e = .returned (.bool r) ∧ Below w.heap.size w w' := by
 have hu31 := Try.underlying31
 have hu66 := Try.underlying66
 have HR0_0 := Aside0.mk hr0_0
 have HC0_0 := Aside0.mk hc0_0
 clear hr0_0 hc0_0
 have HR1_0 := Aside0.mk hr1_0
 have HC1_0 := Aside0.mk hc1_0
 clear hr1_0 hc1_0
 have HB := Aside0.mk (Below.refl w.heap.size w)
 have H : (if (l0_0.length : Int) = (l1_0.length : Int) then (laws_sameDisk.l0 k 0 l0_0 l1_0) else (some false)) = some r := h
 clear h
 by_cases c3 : (l0_0.length : Int) = (l1_0.length : Int)
 ·rw [if_pos c3] at H
  have c3b0 : ((l0_0.length : Int) == (l1_0.length : Int)) = true := beq_iff_eq.mpr c3
  have c3b1 : ((l0_0.length : Int) != (l1_0.length : Int)) = false := bne_eq_false_iff_eq.mpr c3
  have c3b2 : (l0_0.length == l1_0.length) = true := by first | simpa using c3 | (simp at c3 ⊢; omega)
  clear c3
  have H' := Aside0.mk H
  clear H
  go_enter Try.func24, Try.ntmps24
  go_wp2_with (first | ((with_reducible refine gate_dst (N := 2) rfl ?_); refine box_event rfl (N := 2) rfl (cs := #[.slice A0_0 l0_0.length c0_0]) (t := 31) zrun ?_; intro gb467 hg w4 hbox hb; have BK467 := am (hbox); have GW467 := zge hg (zb0 HB.out); have GE467 := zge hg (zb0 HB.out); replace HB := zs0 hb HB; clear hb hbox hg) | ((with_reducible refine gate_dst (N := 3) rfl ?_); refine box_event rfl (N := 3) rfl (cs := #[.slice A1_0 l1_0.length c1_0]) (t := 31) zrun ?_; intro gb468 hg w5 hbox hb; have BK468 := am (hbox); have GW468 := zge hg (zb1 HB.out GE467.out); have GE468 := zge hg (zb1 HB.out GE467.out); obtain ⟨NB467_468, NB468_467⟩ := zne hg BK467; replace BK467 := zk hb BK467; replace HB := zs1 hb HB GE467; clear hb hbox hg; obtain ⟨hnb6, hnc6⟩ := zn2 NB467_468; obtain ⟨hcz7_0, hfz7_0⟩ := zc1 BK467.out; obtain ⟨hcz8_0, hfz8_0⟩ := zc1 BK468.out))
  repeat (go_quiet (first | ((with_reducible refine gate_dst (N := 2) rfl ?_); refine box_event rfl (N := 2) rfl (cs := #[.slice A0_0 l0_0.length c0_0]) (t := 31) zrun ?_; intro gb467 hg w4 hbox hb; have BK467 := am (hbox); have GW467 := zge hg (zb0 HB.out); have GE467 := zge hg (zb0 HB.out); replace HB := zs0 hb HB; clear hb hbox hg) | ((with_reducible refine gate_dst (N := 3) rfl ?_); refine box_event rfl (N := 3) rfl (cs := #[.slice A1_0 l1_0.length c1_0]) (t := 31) zrun ?_; intro gb468 hg w5 hbox hb; have BK468 := am (hbox); have GW468 := zge hg (zb1 HB.out GE467.out); have GE468 := zge hg (zb1 HB.out GE467.out); obtain ⟨NB467_468, NB468_467⟩ := zne hg BK467; replace BK467 := zk hb BK467; replace HB := zs1 hb HB GE467; clear hb hbox hg; obtain ⟨hnb6, hnc6⟩ := zn2 NB467_468; obtain ⟨hcz7_0, hfz7_0⟩ := zc1 BK467.out; obtain ⟨hcz8_0, hfz8_0⟩ := zc1 BK468.out)); try go_wp2_with (first | ((with_reducible refine gate_dst (N := 2) rfl ?_); refine box_event rfl (N := 2) rfl (cs := #[.slice A0_0 l0_0.length c0_0]) (t := 31) zrun ?_; intro gb467 hg w4 hbox hb; have BK467 := am (hbox); have GW467 := zge hg (zb0 HB.out); have GE467 := zge hg (zb0 HB.out); replace HB := zs0 hb HB; clear hb hbox hg) | ((with_reducible refine gate_dst (N := 3) rfl ?_); refine box_event rfl (N := 3) rfl (cs := #[.slice A1_0 l1_0.length c1_0]) (t := 31) zrun ?_; intro gb468 hg w5 hbox hb; have BK468 := am (hbox); have GW468 := zge hg (zb1 HB.out GE467.out); have GE468 := zge hg (zb1 HB.out GE467.out); obtain ⟨NB467_468, NB468_467⟩ := zne hg BK467; replace BK467 := zk hb BK467; replace HB := zs1 hb HB GE467; clear hb hbox hg; obtain ⟨hnb6, hnc6⟩ := zn2 NB467_468; obtain ⟨hcz7_0, hfz7_0⟩ := zc1 BK467.out; obtain ⟨hcz8_0, hfz8_0⟩ := zc1 BK468.out)))
  go_loopg [5] k (fun kq v5 w' => ∃ (x5_1 : Int), v5 = .int .i64 x5_1 ∧ Aside0 (laws_sameDisk.l0 kq x5_1 l0_0 l1_0 = some r) ∧ Aside0 (kq ≤ k) ∧ Aside0 (w'.heap[gb467]? = some (.cells #[(.slice A0_0 l0_0.length c0_0)] 31 (0, 0))) ∧ Aside0 (w'.heap[gb468]? = some (.cells #[(.slice A1_0 l1_0.length c1_0)] 31 (0, 0))) ∧ Aside0 (Below w.heap.size w w'))
  case atStart => exact ⟨(0), (by first | rfl | (simp; done) | (simp [*]; done)), H', ⟨Nat.le_refl _⟩, ⟨kx BK467.out⟩, ⟨kx BK468.out⟩, ⟨zb2 HB.out GE467.out GE468.out⟩⟩
  case round =>
   clear H'
   obtain ⟨x5_1, rfl, HA, HK1, BK467, BK468, HB⟩ := hrel
   cases gk with
   | zero => exact absurd HA.out (by simp [laws_sameDisk.l0])
   | succ k1 =>
    have H := HA.out
    clear HA
    simp only [laws_sameDisk.l0] at H
    by_cases c9 : x5_1 < (l0_0.length : Int)
    ·rw [if_pos c9] at H
     have c9b0 : decide (x5_1 < (l0_0.length : Int)) = true := decide_eq_true c9
     have c9b1 : decide ((l0_0.length : Int) ≤ x5_1) = false := decide_eq_false (by omega)
     clear c9
     by_cases c10 : 0 ≤ x5_1
     ·rw [if_pos c10] at H
      have c10b0 : decide (0 ≤ x5_1) = true := decide_eq_true c10
      clear c10
      by_cases c11 : x5_1 < (l1_0.length : Int)
      ·rw [if_pos c11] at H
       have c11b0 : decide (x5_1 < (l1_0.length : Int)) = true := decide_eq_true c11
       have c11b1 : decide ((l1_0.length : Int) ≤ x5_1) = false := decide_eq_false (by omega)
       clear c11
       by_cases c12 : (!((((rd_T66 l0_0 x5_1).f0).toList) == (((rd_T66 l1_0 x5_1).f0).toList)) || (!((((rd_T66 l0_0 x5_1).f1).toList) == (((rd_T66 l1_0 x5_1).f1).toList)) || (!(((rd_T66 l0_0 x5_1).f2) == ((rd_T66 l1_0 x5_1).f2))))) = true
       ·rw [if_pos c12] at H
        have c12b0 : (!((((rd_T66 l0_0 x5_1).f0).toList) == (((rd_T66 l1_0 x5_1).f0).toList)) || (!((((rd_T66 l0_0 x5_1).f1).toList) == (((rd_T66 l1_0 x5_1).f1).toList)) || (!(((rd_T66 l0_0 x5_1).f2) == ((rd_T66 l1_0 x5_1).f2))))) = true := c12
        clear c12
        obtain rfl := Option.some.inj H
        obtain ⟨hnb13, hnc13⟩ := zn2 NB467_468
        obtain ⟨hcz14_0, hfz14_0⟩ := zc1 BK467.out
        have p469 : 0 ≤ (x5_1 : Int) := zpq
        have q469 : x5_1 < (l0_0.length : Int) := zpq
        obtain ⟨ad469, e469, hx469_0, hx469_1, hx469_2⟩ := at_T66 HR0_0.out x5_1 p469 q469
        cases e469
        replace hx469_0 := (HB.out.cell (World.block_lt_of_cell? w _ hx469_0)).trans hx469_0
        replace hx469_1 := (HB.out.cell (World.block_lt_of_cell? w _ hx469_1)).trans hx469_1
        replace hx469_2 := (HB.out.cell (World.block_lt_of_cell? w _ hx469_2)).trans hx469_2
        replace p469 := eq_true p469
        replace q469 := eq_true q469
        obtain ⟨hcz15_0, hfz15_0⟩ := zc1 BK468.out
        have p470 : 0 ≤ (x5_1 : Int) := zpq
        have q470 : x5_1 < (l1_0.length : Int) := zpq
        obtain ⟨ad470, e470, hx470_0, hx470_1, hx470_2⟩ := at_T66 HR1_0.out x5_1 p470 q470
        cases e470
        replace hx470_0 := (HB.out.cell (World.block_lt_of_cell? w _ hx470_0)).trans hx470_0
        replace hx470_1 := (HB.out.cell (World.block_lt_of_cell? w _ hx470_1)).trans hx470_1
        replace hx470_2 := (HB.out.cell (World.block_lt_of_cell? w _ hx470_2)).trans hx470_2
        replace p470 := eq_true p470
        replace q470 := eq_true q470
        go_wp2
        repeat (go_quiet (fail); try go_wp2)
        go_ret
        exact ⟨by first | rfl | (simp [errW_none, errW_some] <;> rfl) | (simp [*, errW_none, errW_some] <;> rfl), zb2 HB.out GE467.out GE468.out⟩
       ·rw [if_neg c12] at H
        have c12b0 : (!((((rd_T66 l0_0 x5_1).f0).toList) == (((rd_T66 l1_0 x5_1).f0).toList)) || (!((((rd_T66 l0_0 x5_1).f1).toList) == (((rd_T66 l1_0 x5_1).f1).toList)) || (!(((rd_T66 l0_0 x5_1).f2) == ((rd_T66 l1_0 x5_1).f2))))) = false := by simpa using c12
        clear c12
        have H' := Aside0.mk H
        clear H
        obtain ⟨hnb16, hnc16⟩ := zn2 NB467_468
        obtain ⟨hcz17_0, hfz17_0⟩ := zc1 BK467.out
        have p469 : 0 ≤ (x5_1 : Int) := zpq
        have q469 : x5_1 < (l0_0.length : Int) := zpq
        obtain ⟨ad469, e469, hx469_0, hx469_1, hx469_2⟩ := at_T66 HR0_0.out x5_1 p469 q469
        cases e469
        replace hx469_0 := (HB.out.cell (World.block_lt_of_cell? w _ hx469_0)).trans hx469_0
        replace hx469_1 := (HB.out.cell (World.block_lt_of_cell? w _ hx469_1)).trans hx469_1
        replace hx469_2 := (HB.out.cell (World.block_lt_of_cell? w _ hx469_2)).trans hx469_2
        replace p469 := eq_true p469
        replace q469 := eq_true q469
        obtain ⟨hcz18_0, hfz18_0⟩ := zc1 BK468.out
        have p470 : 0 ≤ (x5_1 : Int) := zpq
        have q470 : x5_1 < (l1_0.length : Int) := zpq
        obtain ⟨ad470, e470, hx470_0, hx470_1, hx470_2⟩ := at_T66 HR1_0.out x5_1 p470 q470
        cases e470
        replace hx470_0 := (HB.out.cell (World.block_lt_of_cell? w _ hx470_0)).trans hx470_0
        replace hx470_1 := (HB.out.cell (World.block_lt_of_cell? w _ hx470_1)).trans hx470_1
        replace hx470_2 := (HB.out.cell (World.block_lt_of_cell? w _ hx470_2)).trans hx470_2
        replace p470 := eq_true p470
        replace q470 := eq_true q470
        go_wp2
        repeat (go_quiet (fail); try go_wp2)
        go_roundg k1
        case measure => have := HK1.out; omega
        case rel => exact ⟨(wrap64 (x5_1 + 1)), (by first | rfl | (simp; done) | (simp [*]; done)), H', ⟨by have := HK1.out; omega⟩, ⟨kx BK467.out⟩, ⟨kx BK468.out⟩, ⟨zb2 HB.out GE467.out GE468.out⟩⟩
      ·rw [if_neg c11] at H
       exact absurd H (by simp)
     ·rw [if_neg c10] at H
      exact absurd H (by simp)
    ·rw [if_neg c9] at H
     have c9b0 : decide (x5_1 < (l0_0.length : Int)) = false := decide_eq_false c9
     have c9b1 : decide ((l0_0.length : Int) ≤ x5_1) = true := decide_eq_true (by omega)
     clear c9
     obtain rfl := Option.some.inj H
     obtain ⟨hnb19, hnc19⟩ := zn2 NB467_468
     obtain ⟨hcz20_0, hfz20_0⟩ := zc1 BK467.out
     go_wp2
     repeat (go_quiet (fail); try go_wp2)
     go_ret
     exact ⟨by first | rfl | (simp [errW_none, errW_some] <;> rfl) | (simp [*, errW_none, errW_some] <;> rfl), zb2 HB.out GE467.out GE468.out⟩
 ·rw [if_neg c3] at H
  have c3b0 : ((l0_0.length : Int) == (l1_0.length : Int)) = false := beq_eq_false_iff_ne.mpr c3
  have c3b1 : ((l0_0.length : Int) != (l1_0.length : Int)) = true := bne_iff_ne.mpr c3
  have c3b2 : (l0_0.length == l1_0.length) = false := by first | simpa using c3 | (simp at c3 ⊢; omega)
  obtain rfl := Option.some.inj H
  go_enter Try.func24, Try.ntmps24
  go_wp2_with (first | ((with_reducible refine gate_dst (N := 2) rfl ?_); refine box_event rfl (N := 2) rfl (cs := #[.slice A0_0 l0_0.length c0_0]) (t := 31) zrun ?_; intro gb467 hg w21 hbox hb; have BK467 := am (hbox); have GW467 := zge hg (zb0 HB.out); have GE467 := zge hg (zb0 HB.out); replace HB := zs0 hb HB; clear hb hbox hg) | ((with_reducible refine gate_dst (N := 3) rfl ?_); refine box_event rfl (N := 3) rfl (cs := #[.slice A1_0 l1_0.length c1_0]) (t := 31) zrun ?_; intro gb468 hg w22 hbox hb; have BK468 := am (hbox); have GW468 := zge hg (zb1 HB.out GE467.out); have GE468 := zge hg (zb1 HB.out GE467.out); obtain ⟨NB467_468, NB468_467⟩ := zne hg BK467; replace BK467 := zk hb BK467; replace HB := zs1 hb HB GE467; clear hb hbox hg; obtain ⟨hnb23, hnc23⟩ := zn2 NB467_468; obtain ⟨hcz24_0, hfz24_0⟩ := zc1 BK467.out; obtain ⟨hcz25_0, hfz25_0⟩ := zc1 BK468.out))
  repeat (go_quiet (first | ((with_reducible refine gate_dst (N := 2) rfl ?_); refine box_event rfl (N := 2) rfl (cs := #[.slice A0_0 l0_0.length c0_0]) (t := 31) zrun ?_; intro gb467 hg w21 hbox hb; have BK467 := am (hbox); have GW467 := zge hg (zb0 HB.out); have GE467 := zge hg (zb0 HB.out); replace HB := zs0 hb HB; clear hb hbox hg) | ((with_reducible refine gate_dst (N := 3) rfl ?_); refine box_event rfl (N := 3) rfl (cs := #[.slice A1_0 l1_0.length c1_0]) (t := 31) zrun ?_; intro gb468 hg w22 hbox hb; have BK468 := am (hbox); have GW468 := zge hg (zb1 HB.out GE467.out); have GE468 := zge hg (zb1 HB.out GE467.out); obtain ⟨NB467_468, NB468_467⟩ := zne hg BK467; replace BK467 := zk hb BK467; replace HB := zs1 hb HB GE467; clear hb hbox hg; obtain ⟨hnb23, hnc23⟩ := zn2 NB467_468; obtain ⟨hcz24_0, hfz24_0⟩ := zc1 BK467.out; obtain ⟨hcz25_0, hfz25_0⟩ := zc1 BK468.out)); try go_wp2_with (first | ((with_reducible refine gate_dst (N := 2) rfl ?_); refine box_event rfl (N := 2) rfl (cs := #[.slice A0_0 l0_0.length c0_0]) (t := 31) zrun ?_; intro gb467 hg w21 hbox hb; have BK467 := am (hbox); have GW467 := zge hg (zb0 HB.out); have GE467 := zge hg (zb0 HB.out); replace HB := zs0 hb HB; clear hb hbox hg) | ((with_reducible refine gate_dst (N := 3) rfl ?_); refine box_event rfl (N := 3) rfl (cs := #[.slice A1_0 l1_0.length c1_0]) (t := 31) zrun ?_; intro gb468 hg w22 hbox hb; have BK468 := am (hbox); have GW468 := zge hg (zb1 HB.out GE467.out); have GE468 := zge hg (zb1 HB.out GE467.out); obtain ⟨NB467_468, NB468_467⟩ := zne hg BK467; replace BK467 := zk hb BK467; replace HB := zs1 hb HB GE467; clear hb hbox hg; obtain ⟨hnb23, hnc23⟩ := zn2 NB467_468; obtain ⟨hcz24_0, hfz24_0⟩ := zc1 BK467.out; obtain ⟨hcz25_0, hfz25_0⟩ := zc1 BK468.out)))
  go_ret
  exact ⟨by first | rfl | (simp [errW_none, errW_some] <;> rfl) | (simp [*, errW_none, errW_some] <;> rfl), zb2 HB.out GE467.out GE468.out⟩

/-! ### impl_FileAt: function 25 -/
def impl_FileAt.f (l0_0 : List (S66)) (a1 : ByteArray) : Option (ByteArray × Bool) := (impl_placeOf.f l0_0 a1).bind fun t472 => (if t472 < 0 then (some ((⟨#[]⟩ : ByteArray), false)) else (if 0 ≤ t472 then (if t472 < (l0_0.length : Int) then (some ((rd_T66 l0_0 t472).f1, true)) else (none)) else (none)))
set_option maxHeartbeats 8000000 in
set_option maxRecDepth 100000 in
theorem impl_FileAt.calls (A0_0 : Option Addr) (c0_0 : Nat) (l0_0 : List (S66)) (a1 : ByteArray) (r1 : ByteArray) (r2 : Bool) (w : World) (hr0_0 : Kd.C k66 w A0_0 l0_0.length l0_0) (hc0_0 : l0_0.length ≤ c0_0) (h : impl_FileAt.f l0_0 a1 = some (r1, r2)) :
  Calls Try.prog 25 #[.agg #[.slice A0_0 l0_0.length c0_0], .string a1] w fun e w' => e = .returned (.tuple #[.string r1, .bool r2]) ∧ Below w.heap.size w w' := by
 have hu31 := Try.underlying31
 have HR0_0 := Aside0.mk hr0_0
 have HC0_0 := Aside0.mk hc0_0
 clear hr0_0 hc0_0
 have HB := Aside0.mk (Below.refl w.heap.size w)
 have H : ((impl_placeOf.f l0_0 a1).bind fun t472 => (if t472 < 0 then (some ((⟨#[]⟩ : ByteArray), false)) else (if 0 ≤ t472 then (if t472 < (l0_0.length : Int) then (some ((rd_T66 l0_0 t472).f1, true)) else (none)) else (none)))) = some (r1, r2) := h
 clear h
 replace H := Option.bind_eq_some_iff.mp H
 obtain ⟨t472, A30, H⟩ := H
 try dsimp only at H
 have A3 := Aside0.mk A30
 clear A30
 by_cases c4 : t472 < 0
 ·rw [if_pos c4] at H
  have c4b0 : decide (t472 < 0) = true := decide_eq_true c4
  clear c4
  simp only [Option.some.injEq, Prod.mk.injEq] at H
  obtain ⟨rfl, rfl⟩ := H
  go_enter Try.func25, Try.ntmps25
  go_wp2_with (first | ((with_reducible refine gate_dst (N := 2) rfl ?_); refine box_event rfl (N := 2) rfl (cs := #[.slice A0_0 l0_0.length c0_0]) (t := 31) zrun ?_; intro gb471 hg w5 hbox hb; have BK471 := am (hbox); have GW471 := zge hg (zb0 HB.out); have GE471 := zge hg (zb0 HB.out); replace HB := zs0 hb HB; clear hb hbox hg; obtain ⟨hcz6_0, hfz6_0⟩ := zc1 BK471.out) | ((with_reducible refine gate_callee (f := 38) rfl ?_); refine goesL_ (some 9) rfl rfl Try.func38 (by kernel_rfl) rfl #[.agg #[.slice A0_0 l0_0.length c0_0], .string a1] rfl zr ?_; (with_reducible refine (impl_placeOf.calls _ _ l0_0 a1 t472 _ ?side1 ?side2 A3.out).mono ?_); (case side1 => repeat (first | exact (Kd.C_below HR0_0.out HB.out) | (with_reducible refine Kd.C_alloc ?_ _) | (with_reducible refine Kd.C_drewN ?_ _) | (with_reducible refine Kd.C_drew ?_))); (case side2 => exact HC0_0.out); rintro e w7 ⟨rfl, hb⟩; refine ⟨_, rfl, ?_⟩; replace BK471 := zk hb BK471; replace HB := zs1 hb HB GE471; clear hb))
  go_ret2
  exact ⟨by first | rfl | (simp [errW_none, errW_some] <;> rfl) | (simp [*, errW_none, errW_some] <;> rfl), zb1 HB.out GE471.out⟩
 ·rw [if_neg c4] at H
  have c4b0 : decide (t472 < 0) = false := decide_eq_false c4
  clear c4
  by_cases c8 : 0 ≤ t472
  ·rw [if_pos c8] at H
   have c8b0 : decide (0 ≤ t472) = true := decide_eq_true c8
   clear c8
   by_cases c9 : t472 < (l0_0.length : Int)
   ·rw [if_pos c9] at H
    have c9b0 : decide (t472 < (l0_0.length : Int)) = true := decide_eq_true c9
    have c9b1 : decide ((l0_0.length : Int) ≤ t472) = false := decide_eq_false (by omega)
    clear c9
    simp only [Option.some.injEq, Prod.mk.injEq] at H
    obtain ⟨rfl, rfl⟩ := H
    go_enter Try.func25, Try.ntmps25
    go_wp2_with (first | ((with_reducible refine gate_dst (N := 2) rfl ?_); refine box_event rfl (N := 2) rfl (cs := #[.slice A0_0 l0_0.length c0_0]) (t := 31) zrun ?_; intro gb471 hg w10 hbox hb; have BK471 := am (hbox); have GW471 := zge hg (zb0 HB.out); have GE471 := zge hg (zb0 HB.out); replace HB := zs0 hb HB; clear hb hbox hg; obtain ⟨hcz11_0, hfz11_0⟩ := zc1 BK471.out) | ((with_reducible refine gate_callee (f := 38) rfl ?_); refine goesL_ (some 9) rfl rfl Try.func38 (by kernel_rfl) rfl #[.agg #[.slice A0_0 l0_0.length c0_0], .string a1] rfl zr ?_; (with_reducible refine (impl_placeOf.calls _ _ l0_0 a1 t472 _ ?side1 ?side2 A3.out).mono ?_); (case side1 => repeat (first | exact (Kd.C_below HR0_0.out HB.out) | (with_reducible refine Kd.C_alloc ?_ _) | (with_reducible refine Kd.C_drewN ?_ _) | (with_reducible refine Kd.C_drew ?_))); (case side2 => exact HC0_0.out); rintro e w12 ⟨rfl, hb⟩; refine ⟨_, rfl, ?_⟩; replace BK471 := zk hb BK471; replace HB := zs1 hb HB GE471; clear hb; obtain ⟨hcz13_0, hfz13_0⟩ := zc1 BK471.out; have p473 : 0 ≤ (t472 : Int) := zpq; have q473 : t472 < (l0_0.length : Int) := zpq; obtain ⟨ad473, e473, hx473_0, hx473_1, hx473_2⟩ := at_T66 HR0_0.out t472 p473 q473; cases e473; replace hx473_0 := (HB.out.cell (World.block_lt_of_cell? w _ hx473_0)).trans hx473_0; replace hx473_1 := (HB.out.cell (World.block_lt_of_cell? w _ hx473_1)).trans hx473_1; replace hx473_2 := (HB.out.cell (World.block_lt_of_cell? w _ hx473_2)).trans hx473_2; replace p473 := eq_true p473; replace q473 := eq_true q473))
    go_ret2
    exact ⟨by first | rfl | (simp [errW_none, errW_some] <;> rfl) | (simp [*, errW_none, errW_some] <;> rfl), zb1 HB.out GE471.out⟩
   ·rw [if_neg c9] at H
    exact absurd H (by simp)
  ·rw [if_neg c8] at H
   exact absurd H (by simp)

end Go.Proofs.Ytklbkkoojkmjbaa.QFnActs
