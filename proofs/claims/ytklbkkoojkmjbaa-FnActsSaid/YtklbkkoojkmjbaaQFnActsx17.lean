/- Written by the kit's print.py, called by our own print2.sh with one import more; not by print.sh. -/
import Derived.Test.YtklbkkoojkmjbaaQFnActsx0
import Derived.Test.YtklbkkoojkmjbaaQFnActsx5
namespace Go.Proofs.Ytklbkkoojkmjbaa.QFnActs
open Go.RowKit Go.Proofs.YtklbkkoojkmjbaaW.PrintWords Go.Proofs.YtklbkkoojkmjbaaW.PrintLast Go.Proofs.YtklbkkoojkmjbaaW.PrintMore
attribute [local go_sem] max2_int min2_int max_two min_two max_three min_three max_four min_four   -- for this text's walks alone
open Go.Proofs.Ytklbkkoojkmjbaa.Short
set_option linter.unusedVariables false
set_option linter.unusedSimpArgs false

/-! ### spec_LoseDisk: function 57 -/
mutual
def spec_LoseDisk.l0 : Nat → List Int → Int → List (S66) → List (S66) → Option ((List (S66)) × Bool)
 | 0, _, _, _, _ => none
 | k + 1, x1, x7, x503000, x506000 => if x7 < (x503000.length : Int) then (if 0 ≤ x7 then (if x7 < (x1.length : Int) then (spec_LoseDisk.j1 k x1 x7 (rd x1 x7) x503000 x506000 ((rd_T66 x503000 x7).f0) ((rd_T66 x503000 x7).f1) ((rd_T66 x503000 x7).f2)) else (spec_LoseDisk.j1 k x1 x7 0 x503000 x506000 ((rd_T66 x503000 x7).f0) ((rd_T66 x503000 x7).f1) ((rd_T66 x503000 x7).f2))) else (none)) else (some (x506000, true))
def spec_LoseDisk.j1 : Nat → List Int → Int → Int → List (S66) → List (S66) → ByteArray → ByteArray → Int → Option ((List (S66)) × Bool)
 | 0, _, _, _, _, _, _, _, _ => none
 | k + 1, x1, x7, x9, x503000, x506000, x508000, x508001, x508002 => if x9 > (x508001.size : Int) then (if (x508001.size : Int) < x508002 then (if 0 ≤ x508002 then (none) else (none)) else (if 0 ≤ (x508001.size : Int) then (if (x508001.size : Int) ≤ (x508001.size : Int) then (if x506000.length < 3518437208883 then (spec_LoseDisk.l0 k x1 (wrap64 (x7 + 1)) x503000 (x506000 ++ [(⟨x508000, x508001.extract 0 ((x508001.size : Int) : Int).toNat, (x508001.size : Int)⟩ : S66)])) else (none)) else (none)) else (none))) else (if x9 < x508002 then (if 0 ≤ x508002 then (if x508002 ≤ (x508001.size : Int) then (if x506000.length < 3518437208883 then (spec_LoseDisk.l0 k x1 (wrap64 (x7 + 1)) x503000 (x506000 ++ [(⟨x508000, x508001.extract 0 (x508002 : Int).toNat, x508002⟩ : S66)])) else (none)) else (none)) else (none)) else (if 0 ≤ x9 then (if x506000.length < 3518437208883 then (spec_LoseDisk.l0 k x1 (wrap64 (x7 + 1)) x503000 (x506000 ++ [(⟨x508000, x508001.extract 0 (x9 : Int).toNat, x9⟩ : S66)])) else (none)) else (none)))
end
def spec_LoseDisk.f (k : Nat) (l0_0 : List (S66)) (l1 : List Int) : Option ((List (S66)) × Bool) := (spec_DiskOk.f k l0_0).bind fun t504 => (if t504 = true then (spec_LoseDisk.l0 k l1 0 l0_0 ([] : List (S66))) else (some (([] : List (S66)), false)))
theorem spec_LoseDisk.mono_l : ∀ k, (∀ y0 y1 y2 y3, LeO (spec_LoseDisk.l0 k y0 y1 y2 y3) (spec_LoseDisk.l0 (k + 1) y0 y1 y2 y3)) ∧ (∀ y0 y1 y2 y3 y4 y5 y6 y7, LeO (spec_LoseDisk.j1 k y0 y1 y2 y3 y4 y5 y6 y7) (spec_LoseDisk.j1 (k + 1) y0 y1 y2 y3 y4 y5 y6 y7))
 | 0 => ⟨fun _ _ _ _ r h => by simp [spec_LoseDisk.l0] at h, fun _ _ _ _ _ _ _ _ r h => by simp [spec_LoseDisk.j1] at h⟩
 | k + 1 => by
  obtain ⟨ih0, ih1⟩ := spec_LoseDisk.mono_l k
  refine ⟨?_, ?_⟩
  ·intro y0 y1 y2 y3
   unfold spec_LoseDisk.l0
   repeat' first
   | (with_reducible exact ih0 _ _ _ _)
   | (with_reducible exact ih1 _ _ _ _ _ _ _ _)
   | (with_reducible exact spec_DiskOk.mono _ _)
   | (with_reducible exact LeO.refl _)
   | (with_reducible exact LeO.none _)
   | (with_reducible refine LeO.ite ?_ ?_)
   | (with_reducible refine LeO.bind ?_ (fun _ => ?_))
   | exact ih0 _ _ _ _
   | exact ih1 _ _ _ _ _ _ _ _
   | exact spec_DiskOk.mono _ _
   | exact LeO.none _
   | refine LeO.ite ?_ ?_
   | refine LeO.bind ?_ (fun _ => ?_)
  ·intro y0 y1 y2 y3 y4 y5 y6 y7
   unfold spec_LoseDisk.j1
   repeat' first
   | (with_reducible exact ih0 _ _ _ _)
   | (with_reducible exact ih1 _ _ _ _ _ _ _ _)
   | (with_reducible exact spec_DiskOk.mono _ _)
   | (with_reducible exact LeO.refl _)
   | (with_reducible exact LeO.none _)
   | (with_reducible refine LeO.ite ?_ ?_)
   | (with_reducible refine LeO.bind ?_ (fun _ => ?_))
   | exact ih0 _ _ _ _
   | exact ih1 _ _ _ _ _ _ _ _
   | exact spec_DiskOk.mono _ _
   | exact LeO.none _
   | refine LeO.ite ?_ ?_
   | refine LeO.bind ?_ (fun _ => ?_)
theorem spec_LoseDisk.mono : ∀ a0 a1 k, LeO (spec_LoseDisk.f k a0 a1) (spec_LoseDisk.f (k + 1) a0 a1) := by
 intro a0 a1 k
 obtain ⟨ih0, ih1⟩ := spec_LoseDisk.mono_l k
 unfold spec_LoseDisk.f
 repeat' first
   | (with_reducible exact ih0 _ _ _ _)
   | (with_reducible exact ih1 _ _ _ _ _ _ _ _)
   | (with_reducible exact spec_DiskOk.mono _ _)
   | (with_reducible exact LeO.refl _)
   | (with_reducible exact LeO.none _)
   | (with_reducible refine LeO.ite ?_ ?_)
   | (with_reducible refine LeO.bind ?_ (fun _ => ?_))
   | exact ih0 _ _ _ _
   | exact ih1 _ _ _ _ _ _ _ _
   | exact spec_DiskOk.mono _ _
   | exact LeO.none _
   | refine LeO.ite ?_ ?_
   | refine LeO.bind ?_ (fun _ => ?_)
def spec_LoseDisk.T15 : Bool × List (List Nat × List Nat) := (true, [([], []), ([0], [0]), ([], []), ([2], [2]), ([], []), ([4], [4]), ([], []), ([5, 6], [5, 6]), ([], []), ([3, 7, 8], [3, 7, 8]), ([9], [9]), ([1, 10], [1, 10]), ([0, 1, 2, 3, 4, 5, 6, 7, 8, 9, 10, 11], []), ([12, 11, 11, 0, 1, 2, 3, 4, 5, 6, 7, 8, 9, 10, 11], [11, 12])])
def spec_LoseDisk.B15 : List Nat := [0, 1, 0, 4, 0, 16, 0, 112, 0, 508, 1020, 2047, 4095, 8191]
theorem spec_LoseDisk.tab15 : rtab .any (opsOf Try.f57 15) = spec_LoseDisk.T15 := by kernel_rfl
theorem spec_LoseDisk.bits15 : waitsOk spec_LoseDisk.T15.2 spec_LoseDisk.B15 = true := by kernel_rfl
set_option maxHeartbeats 8000000 in
set_option maxRecDepth 100000 in
theorem spec_LoseDisk.calls (k : Nat) (A0_0 : Option Addr) (c0_0 : Nat) (l0_0 : List (S66)) (A1 : Option Addr) (c1 : Nat) (l1 : List Int) (r1 : List (S66)) (r2 : Bool) (w : World) (hr0_0 : Kd.C k66 w A0_0 l0_0.length l0_0) (hc0_0 : l0_0.length ≤ c0_0) (hr1 : Kd.C (Kd.int .i64) w A1 l1.length l1) (hc1 : l1.length ≤ c1) (h : spec_LoseDisk.f k l0_0 l1 = some (r1, r2)) :
  Calls Try.prog 57 #[.agg #[.slice A0_0 l0_0.length c0_0], .slice A1 l1.length c1] w fun e w' => ∃ v0_ : Value, e = .returned (.tuple #[.agg #[v0_], .bool r2]) ∧ Kd.R k66 66 w' w.heap.size (fun _ => True) v0_ r1 ∧ Below w.heap.size w w' := by
 have hu31 := Try.underlying31
 have hu66 := Try.underlying66
 have HR0_0 := Aside0.mk hr0_0
 have HC0_0 := Aside0.mk hc0_0
 clear hr0_0 hc0_0
 have HR1 := Aside0.mk hr1
 have HC1 := Aside0.mk hc1
 clear hr1 hc1
 have HB := Aside0.mk (Below.refl w.heap.size w)
 have H : ((spec_DiskOk.f k l0_0).bind fun t504 => (if t504 = true then (spec_LoseDisk.l0 k l1 0 l0_0 ([] : List (S66))) else (some (([] : List (S66)), false)))) = some (r1, r2) := h
 clear h
 replace H := Option.bind_eq_some_iff.mp H
 obtain ⟨t504, A30, H⟩ := H
 try dsimp only at H
 have A3 := Aside0.mk A30
 clear A30
 by_cases c4 : t504 = true
 ·subst c4
  have H1 : (spec_LoseDisk.l0 k l1 0 l0_0 ([] : List (S66))) = some (r1, r2) := by rw [if_pos rfl] at H; exact H
  clear H
  have H := H1
  clear H1
  have H' := Aside0.mk H
  clear H
  go_enter Try.func57, Try.ntmps57
  go_wp2_with (first | ((with_reducible refine gate_dst (N := 2) rfl ?_); refine box_event rfl (N := 2) rfl (cs := #[.slice A0_0 l0_0.length c0_0]) (t := 31) zrun ?_; intro gb502 hg w5 hbox hb; have BK502 := am (hbox); have GW502 := zge hg (zb0 HB.out); have GE502 := zge hg (zb0 HB.out); replace HB := zs0 hb HB; clear hb hbox hg) | ((with_reducible refine gate_dst (N := 4) rfl ?_); refine box_event rfl (N := 4) rfl (cs := #[.slice none 0 0]) (t := 31) zrun ?_; intro gb503 hg w6 hbox hb; have BK503 := am (hbox); have GW503 := zge hg (zb1 HB.out GE502.out); have GE503 := zge hg (zb1 HB.out GE502.out); obtain ⟨NB502_503, NB503_502⟩ := zne hg BK502; replace BK502 := zk hb BK502; replace HB := zs1 hb HB GE502; clear hb hbox hg; obtain ⟨hnb7, hnc7⟩ := zn2 NB502_503; obtain ⟨hcz8_0, hfz8_0⟩ := zc1 BK502.out) | ((with_reducible refine gate_callee (f := 32) rfl ?_); refine goesL_ (some 11) rfl rfl Try.func32 (by kernel_rfl) rfl #[.agg #[.slice A0_0 l0_0.length c0_0]] rfl zr ?_; (with_reducible refine (spec_DiskOk.calls k _ _ l0_0 true _ ?side1 ?side2 A3.out).mono ?_); (case side1 => repeat (first | exact (Kd.C_below HR0_0.out HB.out) | (with_reducible refine Kd.C_alloc ?_ _) | (with_reducible refine Kd.C_drewN ?_ _) | (with_reducible refine Kd.C_drew ?_))); (case side2 => exact HC0_0.out); rintro e w9 ⟨rfl, hb⟩; refine ⟨_, rfl, ?_⟩; replace BK502 := zk hb BK502; replace BK503 := zk hb BK503; replace HB := zs2 hb HB GE502 GE503; clear hb) | ((with_reducible refine gate_dst (N := 6) rfl ?_); refine box_event rfl (N := 6) rfl (cs := #[.slice none 0 0]) (t := 31) zrun ?_; intro gb505 hg w10 hbox hb; have BK505 := am (hbox); have GE505 := zge hg (zb2 HB.out GE502.out GE503.out); obtain ⟨NB502_505, NB505_502⟩ := zne hg BK502; obtain ⟨NB503_505, NB505_503⟩ := zne hg BK503; replace BK502 := zk hb BK502; replace BK503 := zk hb BK503; replace HB := zs2 hb HB GE502 GE503; clear hb hbox hg; obtain ⟨hnb11, hnc11⟩ := zn2 NB505_502; obtain ⟨hnb12, hnc12⟩ := zn2 NB505_503; obtain ⟨hcz13_0, hfz13_0⟩ := zc1 BK505.out))
  go_loopg [7] k (fun kq v7 w' => ∃ (x7_1 : Int) (x506000_1 : List (S66)) (u506000 : Value), v7 = .int .i64 x7_1 ∧ Aside0 (spec_LoseDisk.l0 kq l1 x7_1 l0_0 x506000_1 = some (r1, r2)) ∧ Aside0 (kq ≤ k) ∧ Aside0 (Kd.R k66 66 w' w.heap.size (fun _ => True) u506000 x506000_1) ∧ Aside0 (w'.heap[gb502]? = some (.cells #[(.slice A0_0 l0_0.length c0_0)] 31 (0, 0))) ∧ Aside0 (w'.heap[gb503]? = some (.cells #[(.slice none 0 0)] 31 (0, 0))) ∧ Aside0 (w'.heap[gb505]? = some (.cells #[u506000] 31 (0, 0))) ∧ Aside0 (Below w.heap.size w w'))
  case atStart => exact ⟨(0), (([] : List (S66))), (.slice none 0 0), (by first | rfl | (simp; done) | (simp [*]; done)), H', ⟨Nat.le_refl _⟩, ⟨by first | exact Kd.R_nil _ _ _ _ _ | exact Kd.N_nil _ _ _ _ _ | exact Kd.V_nil _ _ _ _ _ | exact Kd.Q_nil _ _ _ _ _ | exact Kd.S_nil _ _ _ _ _⟩, ⟨zf1 BK502.out NB502_505.out⟩, ⟨zf1 BK503.out NB503_505.out⟩, ⟨by (with_reducible repeat (first | refine blk_drewN ?_ _ | refine blk_drew ?_ | refine blk_alloc ?_ _)); refine blk_put (cs := #[.slice none 0 0]) ?_ 0 _ rfl; (with_reducible repeat (first | refine blk_drewN ?_ _ | refine blk_drew ?_ | refine blk_alloc ?_ _)); exact BK505.out⟩, ⟨zb3 HB.out GE502.out GE503.out GE505.out⟩⟩
  case round =>
   clear H'
   obtain ⟨x7_1, x506000_1, u506000, rfl, HA, HK1, HO_506000, BK502, BK503, BK505, HB⟩ := hrel
   cases gk with
   | zero => exact absurd HA.out (by simp [spec_LoseDisk.l0])
   | succ k1 =>
    have H := HA.out
    clear HA
    simp only [spec_LoseDisk.l0] at H
    by_cases c14 : x7_1 < (l0_0.length : Int)
    ·rw [if_pos c14] at H
     have c14b0 : decide (x7_1 < (l0_0.length : Int)) = true := decide_eq_true c14
     have c14b1 : decide ((l0_0.length : Int) ≤ x7_1) = false := decide_eq_false (by omega)
     clear c14
     by_cases c15 : 0 ≤ x7_1
     ·rw [if_pos c15] at H
      have c15b0 : decide (0 ≤ x7_1) = true := decide_eq_true c15
      clear c15
      have HC16 := Aside0.mk H
      clear H
      obtain ⟨hnb17, hnc17⟩ := zn2 NB502_503
      obtain ⟨hnb18, hnc18⟩ := zn2 NB502_505
      obtain ⟨hcz19_0, hfz19_0⟩ := zc1 BK502.out
      have p506 : 0 ≤ (x7_1 : Int) := zpq
      have q506 : x7_1 < (l0_0.length : Int) := zpq
      obtain ⟨ad506, e506, hx506_0, hx506_1, hx506_2⟩ := at_T66 HR0_0.out x7_1 p506 q506
      cases e506
      replace hx506_0 := (HB.out.cell (World.block_lt_of_cell? w _ hx506_0)).trans hx506_0
      replace hx506_1 := (HB.out.cell (World.block_lt_of_cell? w _ hx506_1)).trans hx506_1
      replace hx506_2 := (HB.out.cell (World.block_lt_of_cell? w _ hx506_2)).trans hx506_2
      replace p506 := eq_true p506
      replace q506 := eq_true q506
      go_upto_if 30 with (first | ((with_reducible refine gate_dst (N := 8) rfl ?_); refine box_event rfl (N := 8) rfl (cs := #[.string (⟨#[]⟩ : ByteArray), .string (⟨#[]⟩ : ByteArray), .int .i64 0]) (t := 66) zrun ?_; intro gb507 hg w20 hbox hb; have BK507 := am (hbox); have GW507 := zge hg (zb3 HB.out GE502.out GE503.out GE505.out); have GE507 := zge hg (zb3 HB.out GE502.out GE503.out GE505.out); obtain ⟨NB502_507, NB507_502⟩ := zne hg BK502; obtain ⟨NB503_507, NB507_503⟩ := zne hg BK503; obtain ⟨NB505_507, NB507_505⟩ := zne hg BK505; replace HO_506000 := am (Kd.R_below (Kd.R_elderB (rx HO_506000.out) gb507 (Nat.le_of_eq hg.symm)) hb); replace BK502 := zk hb BK502; replace BK503 := zk hb BK503; replace BK505 := zk hb BK505; replace HB := zs3 hb HB GE502 GE503 GE505; clear hb hbox hg; obtain ⟨hnb21, hnc21⟩ := zn2 NB507_502; obtain ⟨hnb22, hnc22⟩ := zn2 NB507_503; obtain ⟨hnb23, hnc23⟩ := zn2 NB507_505; obtain ⟨hcz24_0, hcz24_1, hcz24_2, hfz24_0, hfz24_1, hfz24_2⟩ := zc3 BK507.out))
      (try simp only [Act.put, List.setIfInBounds_toArray, List.set_cons_zero, List.set_cons_succ])
      go_cut [9] (fun v9 wc => ∃ (kq : Nat) (x9_15 : Int), v9 = .int .i64 x9_15 ∧ Aside0 (spec_LoseDisk.j1 kq l1 x7_1 x9_15 l0_0 x506000_1 ((rd_T66 l0_0 x7_1).f0) ((rd_T66 l0_0 x7_1).f1) ((rd_T66 l0_0 x7_1).f2) = some (r1, r2)) ∧ Aside0 (kq ≤ k1) ∧ Aside0 (Kd.R k66 66 wc w.heap.size (fun k_ => k_ ≠ gb507) u506000 x506000_1) ∧ Aside0 (wc.heap[gb502]? = some (.cells #[(.slice (some ad506) l0_0.length c0_0)] 31 (0, 0))) ∧ Aside0 (wc.heap[gb503]? = some (.cells #[(.slice none 0 0)] 31 (0, 0))) ∧ Aside0 (wc.heap[gb505]? = some (.cells #[u506000] 31 (0, 0))) ∧ Aside0 (wc.heap[gb507]? = some (.cells #[.string ((rd_T66 l0_0 x7_1).f0), .string ((rd_T66 l0_0 x7_1).f1), .int .i64 ((rd_T66 l0_0 x7_1).f2)] 66 (0, 0))) ∧ Aside0 (Below w.heap.size w wc))
      case first =>
       have H := HC16.out
       clear HC16
       by_cases c25 : x7_1 < (l1.length : Int)
       ·rw [if_pos c25] at H
        have c25b0 : decide (x7_1 < (l1.length : Int)) = true := decide_eq_true c25
        have c25b1 : decide ((l1.length : Int) ≤ x7_1) = false := decide_eq_false (by omega)
        clear c25
        (first | rw [c25b0] | (simp only [i64_w, i32_w]; rw [c25b0]) | skip)
        have H' := Aside0.mk H
        clear H
        have p508 : 0 ≤ (x7_1 : Int) := zpq
        have q508 : x7_1 < (l1.length : Int) := zpq
        obtain ⟨ad508, e508, hx508_0⟩ := Kd.at_int HR1.out x7_1 p508 q508
        cases e508
        have hn508_0 : ad508.block ≠ gb507 := Nat.ne_of_lt (Nat.lt_of_lt_of_le (by have := World.block_lt_of_cell? _ _ hx508_0; first | rwa [add_block] at this | exact this) GW507.out)
        have hn508_1 : ad508.block ≠ gb507 := Nat.ne_of_lt (Nat.lt_of_lt_of_le (by have := World.block_lt_of_cell? _ _ hx508_0; first | rwa [add_block] at this | exact this) GW507.out)
        have hn508_2 : ad508.block ≠ gb507 := Nat.ne_of_lt (Nat.lt_of_lt_of_le (by have := World.block_lt_of_cell? _ _ hx508_0; first | rwa [add_block] at this | exact this) GW507.out)
        replace hx508_0 := (HB.out.cell (World.block_lt_of_cell? w _ hx508_0)).trans hx508_0
        replace hx508_0 := (cell_far (p := ⟨gb507, 0, none⟩) (by first | (rw [add_block]; exact hn508_0) | (show (Addr.add _ _).block ≠ _; rw [add_block]; exact hn508_0) | exact hn508_0) (.string ((rd_T66 l0_0 x7_1).f0))).trans hx508_0
        replace hx508_0 := (cell_far (p := ⟨gb507, 1, none⟩) (by first | (rw [add_block]; exact hn508_1) | (show (Addr.add _ _).block ≠ _; rw [add_block]; exact hn508_1) | exact hn508_1) (.string ((rd_T66 l0_0 x7_1).f1))).trans hx508_0
        replace hx508_0 := (cell_far (p := ⟨gb507, 2, none⟩) (by first | (rw [add_block]; exact hn508_2) | (show (Addr.add _ _).block ≠ _; rw [add_block]; exact hn508_2) | exact hn508_2) (.int .i64 ((rd_T66 l0_0 x7_1).f2))).trans hx508_0
        clear hn508_0 hn508_1 hn508_2
        replace p508 := eq_true p508
        replace q508 := eq_true q508
        go_wp2
        go_meet
        case rel => exact ⟨_, (rd l1 x7_1), (by first | rfl | (simp; done) | (simp [*]; done)), H', ⟨by have := HK1.out; first | omega | exact Nat.le_refl _⟩, ⟨rx (Kd.R_mono (Kd.R_far (p := ⟨gb507, 2, none⟩) (Kd.R_far (p := ⟨gb507, 1, none⟩) (Kd.R_far (p := ⟨gb507, 0, none⟩) (Kd.R_mono HO_506000.out (fun k_ hk => (⟨hk, hk.2⟩ : _ ∧ k_ ≠ gb507))) (fun _ hk => hk.2) (.string ((rd_T66 l0_0 x7_1).f0))) (fun _ hk => hk.2) (.string ((rd_T66 l0_0 x7_1).f1))) (fun _ hk => hk.2) (.int .i64 ((rd_T66 l0_0 x7_1).f2))) (fun _ hk => hk.1.2))⟩, ⟨zf1 BK502.out NB502_507.out⟩, ⟨zf1 BK503.out NB503_507.out⟩, ⟨zf1 BK505.out NB505_507.out⟩, ⟨by (with_reducible repeat (first | refine blk_drewN ?_ _ | refine blk_drew ?_ | refine blk_alloc ?_ _)); refine blk_put (cs := #[.string ((rd_T66 l0_0 x7_1).f0), .string ((rd_T66 l0_0 x7_1).f1), .int .i64 0]) ?_ 2 _ rfl; (with_reducible repeat (first | refine blk_drewN ?_ _ | refine blk_drew ?_ | refine blk_alloc ?_ _)); refine blk_put (cs := #[.string ((rd_T66 l0_0 x7_1).f0), .string (⟨#[]⟩ : ByteArray), .int .i64 0]) ?_ 1 _ rfl; (with_reducible repeat (first | refine blk_drewN ?_ _ | refine blk_drew ?_ | refine blk_alloc ?_ _)); refine blk_put (cs := #[.string (⟨#[]⟩ : ByteArray), .string (⟨#[]⟩ : ByteArray), .int .i64 0]) ?_ 0 _ rfl; (with_reducible repeat (first | refine blk_drewN ?_ _ | refine blk_drew ?_ | refine blk_alloc ?_ _)); exact BK507.out⟩, ⟨zb4 HB.out GE502.out GE503.out GE505.out GE507.out⟩⟩
       ·rw [if_neg c25] at H
        have c25b0 : decide (x7_1 < (l1.length : Int)) = false := decide_eq_false c25
        have c25b1 : decide ((l1.length : Int) ≤ x7_1) = true := decide_eq_true (by omega)
        clear c25
        (first | rw [c25b0] | (simp only [i64_w, i32_w]; rw [c25b0]) | skip)
        have H' := Aside0.mk H
        clear H
        go_wp2
        go_meet
        case rel => exact ⟨_, (0), (by first | rfl | (simp; done) | (simp [*]; done)), H', ⟨by have := HK1.out; first | omega | exact Nat.le_refl _⟩, ⟨rx (Kd.R_mono (Kd.R_far (p := ⟨gb507, 2, none⟩) (Kd.R_far (p := ⟨gb507, 1, none⟩) (Kd.R_far (p := ⟨gb507, 0, none⟩) (Kd.R_mono HO_506000.out (fun k_ hk => (⟨hk, hk.2⟩ : _ ∧ k_ ≠ gb507))) (fun _ hk => hk.2) (.string ((rd_T66 l0_0 x7_1).f0))) (fun _ hk => hk.2) (.string ((rd_T66 l0_0 x7_1).f1))) (fun _ hk => hk.2) (.int .i64 ((rd_T66 l0_0 x7_1).f2))) (fun _ hk => hk.1.2))⟩, ⟨zf1 BK502.out NB502_507.out⟩, ⟨zf1 BK503.out NB503_507.out⟩, ⟨zf1 BK505.out NB505_507.out⟩, ⟨by (with_reducible repeat (first | refine blk_drewN ?_ _ | refine blk_drew ?_ | refine blk_alloc ?_ _)); refine blk_put (cs := #[.string ((rd_T66 l0_0 x7_1).f0), .string ((rd_T66 l0_0 x7_1).f1), .int .i64 0]) ?_ 2 _ rfl; (with_reducible repeat (first | refine blk_drewN ?_ _ | refine blk_drew ?_ | refine blk_alloc ?_ _)); refine blk_put (cs := #[.string ((rd_T66 l0_0 x7_1).f0), .string (⟨#[]⟩ : ByteArray), .int .i64 0]) ?_ 1 _ rfl; (with_reducible repeat (first | refine blk_drewN ?_ _ | refine blk_drew ?_ | refine blk_alloc ?_ _)); refine blk_put (cs := #[.string (⟨#[]⟩ : ByteArray), .string (⟨#[]⟩ : ByteArray), .int .i64 0]) ?_ 0 _ rfl; (with_reducible repeat (first | refine blk_drewN ?_ _ | refine blk_drew ?_ | refine blk_alloc ?_ _)); exact BK507.out⟩, ⟨zb4 HB.out GE502.out GE503.out GE505.out GE507.out⟩⟩
      case rest =>
       clear HC16
       obtain ⟨kq, x9_15, rfl, HA, HJ15, HO_506000, BK502, BK503, BK505, BK507, HB⟩ := hcut
       cases kq with
       | zero => exact absurd HA.out (by simp [spec_LoseDisk.j1])
       | succ kj15 =>
        have H := HA.out
        clear HA
        simp only [spec_LoseDisk.j1] at H
        by_cases c26 : x9_15 > (((rd_T66 l0_0 x7_1).f1).size : Int)
        ·rw [if_pos c26] at H
         have c26b0 : decide ((((rd_T66 l0_0 x7_1).f1).size : Int) < x9_15) = true := decide_eq_true c26
         have c26b1 : decide (x9_15 ≤ (((rd_T66 l0_0 x7_1).f1).size : Int)) = false := decide_eq_false (by omega)
         clear c26
         by_cases c27 : (((rd_T66 l0_0 x7_1).f1).size : Int) < ((rd_T66 l0_0 x7_1).f2)
         ·rw [if_pos c27] at H
          have c27b0 : decide ((((rd_T66 l0_0 x7_1).f1).size : Int) < ((rd_T66 l0_0 x7_1).f2)) = true := decide_eq_true c27
          have c27b1 : decide (((rd_T66 l0_0 x7_1).f2) ≤ (((rd_T66 l0_0 x7_1).f1).size : Int)) = false := decide_eq_false (by omega)
          clear c27
          by_cases c28 : 0 ≤ ((rd_T66 l0_0 x7_1).f2)
          ·rw [if_pos c28] at H
           exact absurd H (by simp)
          ·rw [if_neg c28] at H
           exact absurd H (by simp)
         ·rw [if_neg c27] at H
          have c27b0 : decide ((((rd_T66 l0_0 x7_1).f1).size : Int) < ((rd_T66 l0_0 x7_1).f2)) = false := decide_eq_false c27
          have c27b1 : decide (((rd_T66 l0_0 x7_1).f2) ≤ (((rd_T66 l0_0 x7_1).f1).size : Int)) = true := decide_eq_true (by omega)
          clear c27
          by_cases c29 : 0 ≤ (((rd_T66 l0_0 x7_1).f1).size : Int)
          ·rw [if_pos c29] at H
           have c29b0 := eq_true c29
           have c29b1 : decide (0 ≤ (((rd_T66 l0_0 x7_1).f1).size : Int)) = true := decide_eq_true c29
           clear c29
           by_cases c30 : (((rd_T66 l0_0 x7_1).f1).size : Int) ≤ (((rd_T66 l0_0 x7_1).f1).size : Int)
           ·rw [if_pos c30] at H
            have c30b0 := eq_true c30
            have c30b1 : decide ((((rd_T66 l0_0 x7_1).f1).size : Int) ≤ (((rd_T66 l0_0 x7_1).f1).size : Int)) = true := decide_eq_true c30
            clear c30
            by_cases c31 : x506000_1.length < 3518437208883
            ·rw [if_pos c31] at H
             have LMc31 := Aside0.mk c31
             clear c31
             have ee_ : ((rd_T66 l0_0 x7_1).f1).extract 0 ((((rd_T66 l0_0 x7_1).f1).size : Int) : Int).toNat = ((rd_T66 l0_0 x7_1).f1) := by simp
             rw [ee_] at H
             clear ee_
             obtain ⟨y509, hy509⟩ : ∃ y_ : List (S66), y_ = (x506000_1 ++ [(⟨((rd_T66 l0_0 x7_1).f0), ((rd_T66 l0_0 x7_1).f1), (((rd_T66 l0_0 x7_1).f1).size : Int)⟩ : S66)]) := ⟨_, rfl⟩
             replace H : (spec_LoseDisk.l0 kj15 l1 (wrap64 (x7_1 + 1)) l0_0 y509) = some (r1, r2) := by first | (rw [hy509]; with_reducible exact H) | (have H2_ := (Option.bind_some _ _).symm.trans H; rw [hy509]; with_reducible exact H2_) | (have H2_ := (Option.bind_some _ _).symm.trans H; with_reducible exact H2_) | with_reducible exact H | (rw [hy509]; exact H) | exact H
             have Ny509 := Aside0.mk hy509
             clear hy509
             have H' := Aside0.mk H
             clear H
             obtain ⟨hnb32, hnc32⟩ := zn2 NB507_502
             obtain ⟨hnb33, hnc33⟩ := zn2 NB507_503
             obtain ⟨hnb34, hnc34⟩ := zn2 NB507_505
             obtain ⟨hcz35_0, hcz35_1, hcz35_2, hfz35_0, hfz35_1, hfz35_2⟩ := zc3 BK507.out
             try go_wp2
             replace HO_506000 := am (Kd.R_drew HO_506000.out)
             replace BK502 := zw BK502
             replace BK503 := zw BK503
             replace BK505 := zw BK505
             replace BK507 := zw BK507
             replace HB := am (below_drew1 HB.out)
             refine start_ (n := 14) (S := fun w' => w'.cell? ⟨gb505, 0, none⟩ = some (u506000) ∧ w'.cell? ⟨gb507, 0, none⟩ = some (.string ((rd_T66 l0_0 x7_1).f0)) ∧ w'.cell? ⟨gb507, 1, none⟩ = some (.string ((rd_T66 l0_0 x7_1).f1)) ∧ w'.cell? ⟨gb507, 2, none⟩ = some (.int .i64 ((rd_T66 l0_0 x7_1).f2))) (ds := [13]) #[false, false, false, false, false, false, false, false, false, false, false, false, false, false] (by kernel_rfl) rfl rfl ⟨ct BK505.out 0, ct BK507.out 0, ct BK507.out 1, ct BK507.out 2⟩ (fun hHeld => ?_); refine with_tabW spec_LoseDisk.tab15 spec_LoseDisk.bits15 (fun HT_ HW_ => ?_)
             generalize wc.drew = w36 at HO_506000 BK502 BK503 BK505 BK507 HB hHeld ⊢
             refine zpu 0 49 #[true, false, false, false, false, false, false, false, false, false, false, false, false, false] HT_ ?_
             refine zpu 2 51 #[true, false, true, false, false, false, false, false, false, false, false, false, false, false] HT_ ?_
             refine zpu 4 53 #[true, false, true, false, true, false, false, false, false, false, false, false, false, false] HT_ ?_
             refine zpu 6 55 #[true, false, true, false, true, false, true, false, false, false, false, false, false, false] HT_ ?_
             refine zpu 8 57 #[true, false, true, false, true, false, true, false, true, false, false, false, false, false] HT_ ?_
             refine ztk4 1 50 #[true, true, true, false, true, false, true, false, true, false, false, false, false, false] HT_ HW_ hHeld ?_
             refine ztk4 3 52 #[true, true, true, true, true, false, true, false, true, false, false, false, false, false] HT_ HW_ hHeld ?_
             refine ztk4 5 54 #[true, true, true, true, true, true, true, false, true, false, false, false, false, false] HT_ HW_ hHeld ?_
             refine zpu 7 56 #[true, true, true, true, true, true, true, true, true, false, false, false, false, false] HT_ ?_
             refine zpu 9 58 #[true, true, true, true, true, true, true, true, true, true, false, false, false, false] HT_ ?_
             refine zon 10 #[true, true, true, true, true, true, true, true, true, true, true, false, false, false] HT_ (fun K hK => ?_)
             refine value_ (w1 := ?_) (v := ?_) (by rfl) rfl ?_ ?_
             rotate_left 2
             ·go_simp
              constructor
              ·rfl
              ·rfl
             refine hK.out _ _ ⟨(blk_cell (blk_alloc BK505.out _) 0).trans rfl, (blk_cell (blk_alloc BK507.out _) 0).trans rfl, (blk_cell (blk_alloc BK507.out _) 1).trans rfl, (blk_cell (blk_alloc BK507.out _) 2).trans rfl⟩ (fun hHeld => ?_)
             clear hK K
             refine znm 59 ?_
             refine zon 11 #[true, true, true, true, true, true, true, true, true, true, true, true, false, false] HT_ (fun K hK => ?_)
             refine Kd.R_append_step k66 (w0 := w) w.heap.size (by rfl) (.tmp 50) (.tmp 59) 29 66 (.agg #[(.string ⟨#[]⟩), (.string ⟨#[]⟩), (.int .i64 0)]) 40 rfl Try.underlying29 info66 rfl (by decide) (by omega) u506000 x506000_1 (⟨((rd_T66 l0_0 x7_1).f0), ((rd_T66 l0_0 x7_1).f1), (((rd_T66 l0_0 x7_1).f1).size : Int)⟩ : S66) [.string ((rd_T66 l0_0 x7_1).f0), .string (((rd_T66 l0_0 x7_1).f1)), .int .i64 (((rd_T66 l0_0 x7_1).f1).size : Int)] (fun k_ => k_ ≠ gb507) (fun _ => False) rfl rfl ?aP (fun _ hk => hk.elim) ?aF ?aO ?aB ?aS ?aL ?_
             (case aP => exact k66_mkM _ _ _ (⟨((rd_T66 l0_0 x7_1).f0), ((rd_T66 l0_0 x7_1).f1), (((rd_T66 l0_0 x7_1).f1).size : Int)⟩ : S66))
             (case aB => exact (zb4 HB.out GE502.out GE503.out GE505.out GE507.out))
             (case aF => exact (fun k_ hk => Kd.freshB (g := gb507) (o := .cells #[.string ((rd_T66 l0_0 x7_1).f0), .string ((rd_T66 l0_0 x7_1).f1), .int .i64 ((rd_T66 l0_0 x7_1).f2)] 66 (0, 0)) (kx BK507.out) k_ hk))
             (case aO => exact (rx HO_506000.out))
             (case aS => exact (below_size (zb4 HB.out GE502.out GE503.out GE505.out GE507.out)))
             (case aL => have := LMc31.out; omega)
             intro v510 w37 ho hb hg hat
             rw [← Ny509.out] at ho
             have HO511 := am (ho)
             replace BK502 := am (blk_grown (g := gb502) (o := .cells #[.slice (some ad506) l0_0.length c0_0] 31 (0, 0)) (kx BK502.out) hg (Kd.R_ne HO_506000.out BK502.out (by decide)))
             replace BK503 := am (blk_grown (g := gb503) (o := .cells #[.slice none 0 0] 31 (0, 0)) (kx BK503.out) hg (Kd.R_ne HO_506000.out BK503.out (by decide)))
             replace BK505 := am (blk_grown (g := gb505) (o := .cells #[u506000] 31 (0, 0)) (kx BK505.out) hg (Kd.R_ne HO_506000.out BK505.out (by decide)))
             replace BK507 := am (blk_grown (g := gb507) (o := .cells #[.string ((rd_T66 l0_0 x7_1).f0), .string ((rd_T66 l0_0 x7_1).f1), .int .i64 ((rd_T66 l0_0 x7_1).f2)] 66 (0, 0)) (kx BK507.out) hg (Kd.R_away HO_506000.out (fun _ hk => hk)))
             replace HB := am (hb)
             clear HO_506000 ho hb hg hat
             obtain ⟨Ao38, co38, eo38⟩ := Kd.R_slice HO511.out
             (first | subst eo38 | (injection eo38 with f1_ f2_ f3_; have f4_ := f1_.symm; have f5_ := f3_.symm; clear f1_ f2_ f3_; subst f4_; subst f5_))
             refine hK.out _ _ ⟨ct BK505.out 0, ct BK507.out 0, ct BK507.out 1, ct BK507.out 2⟩ (fun hHeld => ?_)
             clear hK K
             refine znm 60 ?_
             refine zpu 12 61 #[true, true, true, true, true, true, true, true, true, true, true, true, true, false] HT_ ?_
             refine last_ (i := 13) (N := none) #[true, true, true, true, true, true, true, true, true, true, true, true, true, true] rfl rfl (one_of HT_.out (by kernel_rfl)) (by decide) (fun K hK => ?_)
             have hs39 : w37.cell? ⟨gb505, 0, none⟩ = some (u506000) := ct BK505.out 0
             have hfs39 := blk_frozen BK505.out 0
             have hns39_0 := NB502_505.out
             have hns39_1 := NB503_505.out
             have hns39_3 := NB507_505.out
             have hms39_0 := NB505_502.out
             have hms39_1 := NB505_503.out
             have hms39_3 := NB505_507.out
             refine skip_ (w1 := ?_) (by rfl) rfl ?_ ?_
             rotate_left
             ·go_simp
              rfl
             refine hK.out _ _ ?_
             clear hK K
             refine zdn HT_ ?_
             try go_wp2
             go_roundg kj15
             case measure => have := HK1.out; have := HJ15.out; omega
             case rel => exact ⟨(wrap64 (x7_1 + 1)), (y509), (.slice Ao38 y509.length co38), (by first | rfl | (simp; done) | (simp [*]; done)), H', ⟨by have := HK1.out; have := HJ15.out; omega⟩, ⟨rx (Kd.R_mono (Kd.R_far (p := ⟨gb505, 0, none⟩) (Kd.R_types HO511.out BK505.out (by decide)) (fun _ hk => hk.2) (.slice Ao38 y509.length co38)) (fun _ hk => trivial))⟩, ⟨zf1 BK502.out NB502_505.out⟩, ⟨zf1 BK503.out NB503_505.out⟩, ⟨by (with_reducible repeat (first | refine blk_drewN ?_ _ | refine blk_drew ?_ | refine blk_alloc ?_ _)); refine blk_put (cs := #[u506000]) ?_ 0 _ rfl; (with_reducible repeat (first | refine blk_drewN ?_ _ | refine blk_drew ?_ | refine blk_alloc ?_ _)); exact BK505.out⟩, ⟨zb4 HB.out GE502.out GE503.out GE505.out GE507.out⟩⟩
            ·rw [if_neg c31] at H
             exact absurd H (by simp)
           ·rw [if_neg c30] at H
            exact absurd H (by simp)
          ·rw [if_neg c29] at H
           exact absurd H (by simp)
        ·rw [if_neg c26] at H
         have c26b0 : decide ((((rd_T66 l0_0 x7_1).f1).size : Int) < x9_15) = false := decide_eq_false c26
         have c26b1 : decide (x9_15 ≤ (((rd_T66 l0_0 x7_1).f1).size : Int)) = true := decide_eq_true (by omega)
         have c26b2 : (x9_15 ≤ (((rd_T66 l0_0 x7_1).f1).size : Int)) = True := eq_true (by omega)
         clear c26
         by_cases c40 : x9_15 < ((rd_T66 l0_0 x7_1).f2)
         ·rw [if_pos c40] at H
          have c40b0 : decide (x9_15 < ((rd_T66 l0_0 x7_1).f2)) = true := decide_eq_true c40
          have c40b1 : decide (((rd_T66 l0_0 x7_1).f2) ≤ x9_15) = false := decide_eq_false (by omega)
          clear c40
          by_cases c41 : 0 ≤ ((rd_T66 l0_0 x7_1).f2)
          ·rw [if_pos c41] at H
           have c41b0 := eq_true c41
           have c41b1 : decide (0 ≤ ((rd_T66 l0_0 x7_1).f2)) = true := decide_eq_true c41
           clear c41
           by_cases c42 : ((rd_T66 l0_0 x7_1).f2) ≤ (((rd_T66 l0_0 x7_1).f1).size : Int)
           ·rw [if_pos c42] at H
            have c42b0 := eq_true c42
            have c42b1 : decide (((rd_T66 l0_0 x7_1).f2) ≤ (((rd_T66 l0_0 x7_1).f1).size : Int)) = true := decide_eq_true c42
            clear c42
            by_cases c43 : x506000_1.length < 3518437208883
            ·rw [if_pos c43] at H
             have LMc43 := Aside0.mk c43
             clear c43
             obtain ⟨y512, hy512⟩ : ∃ y_ : List (S66), y_ = (x506000_1 ++ [(⟨((rd_T66 l0_0 x7_1).f0), ((rd_T66 l0_0 x7_1).f1).extract 0 (((rd_T66 l0_0 x7_1).f2) : Int).toNat, ((rd_T66 l0_0 x7_1).f2)⟩ : S66)]) := ⟨_, rfl⟩
             replace H : (spec_LoseDisk.l0 kj15 l1 (wrap64 (x7_1 + 1)) l0_0 y512) = some (r1, r2) := by first | (rw [hy512]; with_reducible exact H) | (have H2_ := (Option.bind_some _ _).symm.trans H; rw [hy512]; with_reducible exact H2_) | (have H2_ := (Option.bind_some _ _).symm.trans H; with_reducible exact H2_) | with_reducible exact H | (rw [hy512]; exact H) | exact H
             have Ny512 := Aside0.mk hy512
             clear hy512
             have H' := Aside0.mk H
             clear H
             obtain ⟨hnb44, hnc44⟩ := zn2 NB507_502
             obtain ⟨hnb45, hnc45⟩ := zn2 NB507_503
             obtain ⟨hnb46, hnc46⟩ := zn2 NB507_505
             obtain ⟨hcz47_0, hcz47_1, hcz47_2, hfz47_0, hfz47_1, hfz47_2⟩ := zc3 BK507.out
             try go_wp2
             replace HO_506000 := am (Kd.R_drew HO_506000.out)
             replace BK502 := zw BK502
             replace BK503 := zw BK503
             replace BK505 := zw BK505
             replace BK507 := zw BK507
             replace HB := am (below_drew1 HB.out)
             refine start_ (n := 14) (S := fun w' => w'.cell? ⟨gb505, 0, none⟩ = some (u506000) ∧ w'.cell? ⟨gb507, 0, none⟩ = some (.string ((rd_T66 l0_0 x7_1).f0)) ∧ w'.cell? ⟨gb507, 1, none⟩ = some (.string ((rd_T66 l0_0 x7_1).f1)) ∧ w'.cell? ⟨gb507, 2, none⟩ = some (.int .i64 ((rd_T66 l0_0 x7_1).f2))) (ds := [13]) #[false, false, false, false, false, false, false, false, false, false, false, false, false, false] (by kernel_rfl) rfl rfl ⟨ct BK505.out 0, ct BK507.out 0, ct BK507.out 1, ct BK507.out 2⟩ (fun hHeld => ?_); refine with_tabW spec_LoseDisk.tab15 spec_LoseDisk.bits15 (fun HT_ HW_ => ?_)
             generalize wc.drew = w48 at HO_506000 BK502 BK503 BK505 BK507 HB hHeld ⊢
             refine zpu 0 49 #[true, false, false, false, false, false, false, false, false, false, false, false, false, false] HT_ ?_
             refine zpu 2 51 #[true, false, true, false, false, false, false, false, false, false, false, false, false, false] HT_ ?_
             refine zpu 4 53 #[true, false, true, false, true, false, false, false, false, false, false, false, false, false] HT_ ?_
             refine zpu 6 55 #[true, false, true, false, true, false, true, false, false, false, false, false, false, false] HT_ ?_
             refine zpu 8 57 #[true, false, true, false, true, false, true, false, true, false, false, false, false, false] HT_ ?_
             refine ztk4 1 50 #[true, true, true, false, true, false, true, false, true, false, false, false, false, false] HT_ HW_ hHeld ?_
             refine ztk4 3 52 #[true, true, true, true, true, false, true, false, true, false, false, false, false, false] HT_ HW_ hHeld ?_
             refine ztk4 5 54 #[true, true, true, true, true, true, true, false, true, false, false, false, false, false] HT_ HW_ hHeld ?_
             refine zpu 7 56 #[true, true, true, true, true, true, true, true, true, false, false, false, false, false] HT_ ?_
             refine zpu 9 58 #[true, true, true, true, true, true, true, true, true, true, false, false, false, false] HT_ ?_
             refine zon 10 #[true, true, true, true, true, true, true, true, true, true, true, false, false, false] HT_ (fun K hK => ?_)
             refine value_ (w1 := ?_) (v := ?_) (by rfl) rfl ?_ ?_
             rotate_left 2
             ·go_simp
              constructor
              ·rfl
              ·rfl
             refine hK.out _ _ ⟨(blk_cell (blk_alloc BK505.out _) 0).trans rfl, (blk_cell (blk_alloc BK507.out _) 0).trans rfl, (blk_cell (blk_alloc BK507.out _) 1).trans rfl, (blk_cell (blk_alloc BK507.out _) 2).trans rfl⟩ (fun hHeld => ?_)
             clear hK K
             refine znm 59 ?_
             refine zon 11 #[true, true, true, true, true, true, true, true, true, true, true, true, false, false] HT_ (fun K hK => ?_)
             refine Kd.R_append_step k66 (w0 := w) w.heap.size (by rfl) (.tmp 50) (.tmp 59) 29 66 (.agg #[(.string ⟨#[]⟩), (.string ⟨#[]⟩), (.int .i64 0)]) 40 rfl Try.underlying29 info66 rfl (by decide) (by omega) u506000 x506000_1 (⟨((rd_T66 l0_0 x7_1).f0), ((rd_T66 l0_0 x7_1).f1).extract 0 (((rd_T66 l0_0 x7_1).f2) : Int).toNat, ((rd_T66 l0_0 x7_1).f2)⟩ : S66) [.string ((rd_T66 l0_0 x7_1).f0), .string (((rd_T66 l0_0 x7_1).f1).extract 0 (((rd_T66 l0_0 x7_1).f2) : Int).toNat), .int .i64 ((rd_T66 l0_0 x7_1).f2)] (fun k_ => k_ ≠ gb507) (fun _ => False) rfl rfl ?aP (fun _ hk => hk.elim) ?aF ?aO ?aB ?aS ?aL ?_
             (case aP => exact k66_mkM _ _ _ (⟨((rd_T66 l0_0 x7_1).f0), ((rd_T66 l0_0 x7_1).f1).extract 0 (((rd_T66 l0_0 x7_1).f2) : Int).toNat, ((rd_T66 l0_0 x7_1).f2)⟩ : S66))
             (case aB => exact (zb4 HB.out GE502.out GE503.out GE505.out GE507.out))
             (case aF => exact (fun k_ hk => Kd.freshB (g := gb507) (o := .cells #[.string ((rd_T66 l0_0 x7_1).f0), .string ((rd_T66 l0_0 x7_1).f1), .int .i64 ((rd_T66 l0_0 x7_1).f2)] 66 (0, 0)) (kx BK507.out) k_ hk))
             (case aO => exact (rx HO_506000.out))
             (case aS => exact (below_size (zb4 HB.out GE502.out GE503.out GE505.out GE507.out)))
             (case aL => have := LMc43.out; omega)
             intro v513 w49 ho hb hg hat
             rw [← Ny512.out] at ho
             have HO514 := am (ho)
             replace BK502 := am (blk_grown (g := gb502) (o := .cells #[.slice (some ad506) l0_0.length c0_0] 31 (0, 0)) (kx BK502.out) hg (Kd.R_ne HO_506000.out BK502.out (by decide)))
             replace BK503 := am (blk_grown (g := gb503) (o := .cells #[.slice none 0 0] 31 (0, 0)) (kx BK503.out) hg (Kd.R_ne HO_506000.out BK503.out (by decide)))
             replace BK505 := am (blk_grown (g := gb505) (o := .cells #[u506000] 31 (0, 0)) (kx BK505.out) hg (Kd.R_ne HO_506000.out BK505.out (by decide)))
             replace BK507 := am (blk_grown (g := gb507) (o := .cells #[.string ((rd_T66 l0_0 x7_1).f0), .string ((rd_T66 l0_0 x7_1).f1), .int .i64 ((rd_T66 l0_0 x7_1).f2)] 66 (0, 0)) (kx BK507.out) hg (Kd.R_away HO_506000.out (fun _ hk => hk)))
             replace HB := am (hb)
             clear HO_506000 ho hb hg hat
             obtain ⟨Ao50, co50, eo50⟩ := Kd.R_slice HO514.out
             (first | subst eo50 | (injection eo50 with f1_ f2_ f3_; have f4_ := f1_.symm; have f5_ := f3_.symm; clear f1_ f2_ f3_; subst f4_; subst f5_))
             refine hK.out _ _ ⟨ct BK505.out 0, ct BK507.out 0, ct BK507.out 1, ct BK507.out 2⟩ (fun hHeld => ?_)
             clear hK K
             refine znm 60 ?_
             refine zpu 12 61 #[true, true, true, true, true, true, true, true, true, true, true, true, true, false] HT_ ?_
             refine last_ (i := 13) (N := none) #[true, true, true, true, true, true, true, true, true, true, true, true, true, true] rfl rfl (one_of HT_.out (by kernel_rfl)) (by decide) (fun K hK => ?_)
             have hs51 : w49.cell? ⟨gb505, 0, none⟩ = some (u506000) := ct BK505.out 0
             have hfs51 := blk_frozen BK505.out 0
             have hns51_0 := NB502_505.out
             have hns51_1 := NB503_505.out
             have hns51_3 := NB507_505.out
             have hms51_0 := NB505_502.out
             have hms51_1 := NB505_503.out
             have hms51_3 := NB505_507.out
             refine skip_ (w1 := ?_) (by rfl) rfl ?_ ?_
             rotate_left
             ·go_simp
              rfl
             refine hK.out _ _ ?_
             clear hK K
             refine zdn HT_ ?_
             try go_wp2
             go_roundg kj15
             case measure => have := HK1.out; have := HJ15.out; omega
             case rel => exact ⟨(wrap64 (x7_1 + 1)), (y512), (.slice Ao50 y512.length co50), (by first | rfl | (simp; done) | (simp [*]; done)), H', ⟨by have := HK1.out; have := HJ15.out; omega⟩, ⟨rx (Kd.R_mono (Kd.R_far (p := ⟨gb505, 0, none⟩) (Kd.R_types HO514.out BK505.out (by decide)) (fun _ hk => hk.2) (.slice Ao50 y512.length co50)) (fun _ hk => trivial))⟩, ⟨zf1 BK502.out NB502_505.out⟩, ⟨zf1 BK503.out NB503_505.out⟩, ⟨by (with_reducible repeat (first | refine blk_drewN ?_ _ | refine blk_drew ?_ | refine blk_alloc ?_ _)); refine blk_put (cs := #[u506000]) ?_ 0 _ rfl; (with_reducible repeat (first | refine blk_drewN ?_ _ | refine blk_drew ?_ | refine blk_alloc ?_ _)); exact BK505.out⟩, ⟨zb4 HB.out GE502.out GE503.out GE505.out GE507.out⟩⟩
            ·rw [if_neg c43] at H
             exact absurd H (by simp)
           ·rw [if_neg c42] at H
            exact absurd H (by simp)
          ·rw [if_neg c41] at H
           exact absurd H (by simp)
         ·rw [if_neg c40] at H
          have c40b0 : decide (x9_15 < ((rd_T66 l0_0 x7_1).f2)) = false := decide_eq_false c40
          have c40b1 : decide (((rd_T66 l0_0 x7_1).f2) ≤ x9_15) = true := decide_eq_true (by omega)
          clear c40
          by_cases c52 : 0 ≤ x9_15
          ·rw [if_pos c52] at H
           have c52b0 := eq_true c52
           have c52b1 : decide (0 ≤ x9_15) = true := decide_eq_true c52
           clear c52
           by_cases c53 : x506000_1.length < 3518437208883
           ·rw [if_pos c53] at H
            have LMc53 := Aside0.mk c53
            clear c53
            obtain ⟨y515, hy515⟩ : ∃ y_ : List (S66), y_ = (x506000_1 ++ [(⟨((rd_T66 l0_0 x7_1).f0), ((rd_T66 l0_0 x7_1).f1).extract 0 (x9_15 : Int).toNat, x9_15⟩ : S66)]) := ⟨_, rfl⟩
            replace H : (spec_LoseDisk.l0 kj15 l1 (wrap64 (x7_1 + 1)) l0_0 y515) = some (r1, r2) := by first | (rw [hy515]; with_reducible exact H) | (have H2_ := (Option.bind_some _ _).symm.trans H; rw [hy515]; with_reducible exact H2_) | (have H2_ := (Option.bind_some _ _).symm.trans H; with_reducible exact H2_) | with_reducible exact H | (rw [hy515]; exact H) | exact H
            have Ny515 := Aside0.mk hy515
            clear hy515
            have H' := Aside0.mk H
            clear H
            obtain ⟨hnb54, hnc54⟩ := zn2 NB507_502
            obtain ⟨hnb55, hnc55⟩ := zn2 NB507_503
            obtain ⟨hnb56, hnc56⟩ := zn2 NB507_505
            obtain ⟨hcz57_0, hcz57_1, hcz57_2, hfz57_0, hfz57_1, hfz57_2⟩ := zc3 BK507.out
            try go_wp2
            replace HO_506000 := am (Kd.R_drew HO_506000.out)
            replace BK502 := zw BK502
            replace BK503 := zw BK503
            replace BK505 := zw BK505
            replace BK507 := zw BK507
            replace HB := am (below_drew1 HB.out)
            refine start_ (n := 14) (S := fun w' => w'.cell? ⟨gb505, 0, none⟩ = some (u506000) ∧ w'.cell? ⟨gb507, 0, none⟩ = some (.string ((rd_T66 l0_0 x7_1).f0)) ∧ w'.cell? ⟨gb507, 1, none⟩ = some (.string ((rd_T66 l0_0 x7_1).f1)) ∧ w'.cell? ⟨gb507, 2, none⟩ = some (.int .i64 ((rd_T66 l0_0 x7_1).f2))) (ds := [13]) #[false, false, false, false, false, false, false, false, false, false, false, false, false, false] (by kernel_rfl) rfl rfl ⟨ct BK505.out 0, ct BK507.out 0, ct BK507.out 1, ct BK507.out 2⟩ (fun hHeld => ?_); refine with_tabW spec_LoseDisk.tab15 spec_LoseDisk.bits15 (fun HT_ HW_ => ?_)
            generalize wc.drew = w58 at HO_506000 BK502 BK503 BK505 BK507 HB hHeld ⊢
            refine zpu 0 49 #[true, false, false, false, false, false, false, false, false, false, false, false, false, false] HT_ ?_
            refine zpu 2 51 #[true, false, true, false, false, false, false, false, false, false, false, false, false, false] HT_ ?_
            refine zpu 4 53 #[true, false, true, false, true, false, false, false, false, false, false, false, false, false] HT_ ?_
            refine zpu 6 55 #[true, false, true, false, true, false, true, false, false, false, false, false, false, false] HT_ ?_
            refine zpu 8 57 #[true, false, true, false, true, false, true, false, true, false, false, false, false, false] HT_ ?_
            refine ztk4 1 50 #[true, true, true, false, true, false, true, false, true, false, false, false, false, false] HT_ HW_ hHeld ?_
            refine ztk4 3 52 #[true, true, true, true, true, false, true, false, true, false, false, false, false, false] HT_ HW_ hHeld ?_
            refine ztk4 5 54 #[true, true, true, true, true, true, true, false, true, false, false, false, false, false] HT_ HW_ hHeld ?_
            refine zpu 7 56 #[true, true, true, true, true, true, true, true, true, false, false, false, false, false] HT_ ?_
            refine zpu 9 58 #[true, true, true, true, true, true, true, true, true, true, false, false, false, false] HT_ ?_
            refine zon 10 #[true, true, true, true, true, true, true, true, true, true, true, false, false, false] HT_ (fun K hK => ?_)
            refine value_ (w1 := ?_) (v := ?_) (by rfl) rfl ?_ ?_
            rotate_left 2
            ·go_simp
             constructor
             ·rfl
             ·rfl
            refine hK.out _ _ ⟨(blk_cell (blk_alloc BK505.out _) 0).trans rfl, (blk_cell (blk_alloc BK507.out _) 0).trans rfl, (blk_cell (blk_alloc BK507.out _) 1).trans rfl, (blk_cell (blk_alloc BK507.out _) 2).trans rfl⟩ (fun hHeld => ?_)
            clear hK K
            refine znm 59 ?_
            refine zon 11 #[true, true, true, true, true, true, true, true, true, true, true, true, false, false] HT_ (fun K hK => ?_)
            refine Kd.R_append_step k66 (w0 := w) w.heap.size (by rfl) (.tmp 50) (.tmp 59) 29 66 (.agg #[(.string ⟨#[]⟩), (.string ⟨#[]⟩), (.int .i64 0)]) 40 rfl Try.underlying29 info66 rfl (by decide) (by omega) u506000 x506000_1 (⟨((rd_T66 l0_0 x7_1).f0), ((rd_T66 l0_0 x7_1).f1).extract 0 (x9_15 : Int).toNat, x9_15⟩ : S66) [.string ((rd_T66 l0_0 x7_1).f0), .string (((rd_T66 l0_0 x7_1).f1).extract 0 (x9_15 : Int).toNat), .int .i64 x9_15] (fun k_ => k_ ≠ gb507) (fun _ => False) rfl rfl ?aP (fun _ hk => hk.elim) ?aF ?aO ?aB ?aS ?aL ?_
            (case aP => exact k66_mkM _ _ _ (⟨((rd_T66 l0_0 x7_1).f0), ((rd_T66 l0_0 x7_1).f1).extract 0 (x9_15 : Int).toNat, x9_15⟩ : S66))
            (case aB => exact (zb4 HB.out GE502.out GE503.out GE505.out GE507.out))
            (case aF => exact (fun k_ hk => Kd.freshB (g := gb507) (o := .cells #[.string ((rd_T66 l0_0 x7_1).f0), .string ((rd_T66 l0_0 x7_1).f1), .int .i64 ((rd_T66 l0_0 x7_1).f2)] 66 (0, 0)) (kx BK507.out) k_ hk))
            (case aO => exact (rx HO_506000.out))
            (case aS => exact (below_size (zb4 HB.out GE502.out GE503.out GE505.out GE507.out)))
            (case aL => have := LMc53.out; omega)
            intro v516 w59 ho hb hg hat
            rw [← Ny515.out] at ho
            have HO517 := am (ho)
            replace BK502 := am (blk_grown (g := gb502) (o := .cells #[.slice (some ad506) l0_0.length c0_0] 31 (0, 0)) (kx BK502.out) hg (Kd.R_ne HO_506000.out BK502.out (by decide)))
            replace BK503 := am (blk_grown (g := gb503) (o := .cells #[.slice none 0 0] 31 (0, 0)) (kx BK503.out) hg (Kd.R_ne HO_506000.out BK503.out (by decide)))
            replace BK505 := am (blk_grown (g := gb505) (o := .cells #[u506000] 31 (0, 0)) (kx BK505.out) hg (Kd.R_ne HO_506000.out BK505.out (by decide)))
            replace BK507 := am (blk_grown (g := gb507) (o := .cells #[.string ((rd_T66 l0_0 x7_1).f0), .string ((rd_T66 l0_0 x7_1).f1), .int .i64 ((rd_T66 l0_0 x7_1).f2)] 66 (0, 0)) (kx BK507.out) hg (Kd.R_away HO_506000.out (fun _ hk => hk)))
            replace HB := am (hb)
            clear HO_506000 ho hb hg hat
            obtain ⟨Ao60, co60, eo60⟩ := Kd.R_slice HO517.out
            (first | subst eo60 | (injection eo60 with f1_ f2_ f3_; have f4_ := f1_.symm; have f5_ := f3_.symm; clear f1_ f2_ f3_; subst f4_; subst f5_))
            refine hK.out _ _ ⟨ct BK505.out 0, ct BK507.out 0, ct BK507.out 1, ct BK507.out 2⟩ (fun hHeld => ?_)
            clear hK K
            refine znm 60 ?_
            refine zpu 12 61 #[true, true, true, true, true, true, true, true, true, true, true, true, true, false] HT_ ?_
            refine last_ (i := 13) (N := none) #[true, true, true, true, true, true, true, true, true, true, true, true, true, true] rfl rfl (one_of HT_.out (by kernel_rfl)) (by decide) (fun K hK => ?_)
            have hs61 : w59.cell? ⟨gb505, 0, none⟩ = some (u506000) := ct BK505.out 0
            have hfs61 := blk_frozen BK505.out 0
            have hns61_0 := NB502_505.out
            have hns61_1 := NB503_505.out
            have hns61_3 := NB507_505.out
            have hms61_0 := NB505_502.out
            have hms61_1 := NB505_503.out
            have hms61_3 := NB505_507.out
            refine skip_ (w1 := ?_) (by rfl) rfl ?_ ?_
            rotate_left
            ·go_simp
             rfl
            refine hK.out _ _ ?_
            clear hK K
            refine zdn HT_ ?_
            try go_wp2
            go_roundg kj15
            case measure => have := HK1.out; have := HJ15.out; omega
            case rel => exact ⟨(wrap64 (x7_1 + 1)), (y515), (.slice Ao60 y515.length co60), (by first | rfl | (simp; done) | (simp [*]; done)), H', ⟨by have := HK1.out; have := HJ15.out; omega⟩, ⟨rx (Kd.R_mono (Kd.R_far (p := ⟨gb505, 0, none⟩) (Kd.R_types HO517.out BK505.out (by decide)) (fun _ hk => hk.2) (.slice Ao60 y515.length co60)) (fun _ hk => trivial))⟩, ⟨zf1 BK502.out NB502_505.out⟩, ⟨zf1 BK503.out NB503_505.out⟩, ⟨by (with_reducible repeat (first | refine blk_drewN ?_ _ | refine blk_drew ?_ | refine blk_alloc ?_ _)); refine blk_put (cs := #[u506000]) ?_ 0 _ rfl; (with_reducible repeat (first | refine blk_drewN ?_ _ | refine blk_drew ?_ | refine blk_alloc ?_ _)); exact BK505.out⟩, ⟨zb4 HB.out GE502.out GE503.out GE505.out GE507.out⟩⟩
           ·rw [if_neg c53] at H
            exact absurd H (by simp)
          ·rw [if_neg c52] at H
           exact absurd H (by simp)
     ·rw [if_neg c15] at H
      exact absurd H (by simp)
    ·rw [if_neg c14] at H
     have c14b0 : decide (x7_1 < (l0_0.length : Int)) = false := decide_eq_false c14
     have c14b1 : decide ((l0_0.length : Int) ≤ x7_1) = true := decide_eq_true (by omega)
     clear c14
     simp only [Option.some.injEq, Prod.mk.injEq] at H
     obtain ⟨rfl, rfl⟩ := H
     obtain ⟨hnb62, hnc62⟩ := zn2 NB502_503
     obtain ⟨hnb63, hnc63⟩ := zn2 NB502_505
     obtain ⟨hcz64_0, hfz64_0⟩ := zc1 BK502.out
     obtain ⟨hnb65, hnc65⟩ := zn2 NB505_503
     obtain ⟨hcz66_0, hfz66_0⟩ := zc1 BK505.out
     obtain ⟨Ao67, co67, eo67⟩ := Kd.R_slice HO_506000.out
     subst eo67
     obtain ⟨hcz68_0, hfz68_0⟩ := zc1 BK503.out
     go_wp2
     refine bodyPost_ret (results_ct rfl _ _ gb503 31 #[.slice Ao67 x506000_1.length co67] (0, 0) _ rfl (zp0 BK503.out) Try.underlying31 rfl (by kernel_rfl)) rfl ?_
     exact ⟨_, by first | rfl | (simp [errW_none, errW_some] <;> rfl) | (simp [*, errW_none, errW_some] <;> rfl), rx (Kd.R_mono (Kd.R_far (p := ⟨gb503, 0, none⟩) (Kd.R_types HO_506000.out BK503.out (by decide)) (fun _ hk => hk.2) (.slice Ao67 x506000_1.length co67)) (fun _ hk => trivial)), zb3 HB.out GE502.out GE503.out GE505.out⟩
 ·replace c4 := Bool.eq_false_iff.mpr c4
  subst c4
  have H1 : (some (([] : List (S66)), false)) = some (r1, r2) := by rw [if_neg (show ¬ (false = true) by decide)] at H; exact H
  clear H
  have H := H1
  clear H1
  simp only [Option.some.injEq, Prod.mk.injEq] at H
  obtain ⟨rfl, rfl⟩ := H
  go_enter Try.func57, Try.ntmps57
  go_wp2_with (first | ((with_reducible refine gate_dst (N := 2) rfl ?_); refine box_event rfl (N := 2) rfl (cs := #[.slice A0_0 l0_0.length c0_0]) (t := 31) zrun ?_; intro gb502 hg w69 hbox hb; have BK502 := am (hbox); have GW502 := zge hg (zb0 HB.out); have GE502 := zge hg (zb0 HB.out); replace HB := zs0 hb HB; clear hb hbox hg) | ((with_reducible refine gate_dst (N := 4) rfl ?_); refine box_event rfl (N := 4) rfl (cs := #[.slice none 0 0]) (t := 31) zrun ?_; intro gb503 hg w70 hbox hb; have BK503 := am (hbox); have GW503 := zge hg (zb1 HB.out GE502.out); have GE503 := zge hg (zb1 HB.out GE502.out); obtain ⟨NB502_503, NB503_502⟩ := zne hg BK502; replace BK502 := zk hb BK502; replace HB := zs1 hb HB GE502; clear hb hbox hg; obtain ⟨hnb71, hnc71⟩ := zn2 NB502_503; obtain ⟨hcz72_0, hfz72_0⟩ := zc1 BK502.out) | ((with_reducible refine gate_callee (f := 32) rfl ?_); refine goesL_ (some 11) rfl rfl Try.func32 (by kernel_rfl) rfl #[.agg #[.slice A0_0 l0_0.length c0_0]] rfl zr ?_; (with_reducible refine (spec_DiskOk.calls k _ _ l0_0 false _ ?side1 ?side2 A3.out).mono ?_); (case side1 => repeat (first | exact (Kd.C_below HR0_0.out HB.out) | (with_reducible refine Kd.C_alloc ?_ _) | (with_reducible refine Kd.C_drewN ?_ _) | (with_reducible refine Kd.C_drew ?_))); (case side2 => exact HC0_0.out); rintro e w73 ⟨rfl, hb⟩; refine ⟨_, rfl, ?_⟩; replace BK502 := zk hb BK502; replace BK503 := zk hb BK503; replace HB := zs2 hb HB GE502 GE503; clear hb; obtain ⟨hcz74_0, hfz74_0⟩ := zc1 BK503.out))
  refine bodyPost_ret (results_ct rfl _ _ gb503 31 #[.slice none 0 0] (0, 0) _ rfl (zp0 BK503.out) Try.underlying31 rfl (by kernel_rfl)) rfl ?_
  exact ⟨_, by first | rfl | (simp [errW_none, errW_some] <;> rfl) | (simp [*, errW_none, errW_some] <;> rfl), by first | exact Kd.R_nil _ _ _ _ _ | exact Kd.N_nil _ _ _ _ _ | exact Kd.V_nil _ _ _ _ _ | exact Kd.Q_nil _ _ _ _ _ | exact Kd.S_nil _ _ _ _ _, zb2 HB.out GE502.out GE503.out⟩

end Go.Proofs.Ytklbkkoojkmjbaa.QFnActs
