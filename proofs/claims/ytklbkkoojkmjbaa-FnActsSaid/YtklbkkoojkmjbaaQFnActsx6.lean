/- Written by the kit's print.py, called by our own print2.sh with one import more; not by print.sh. -/
import Derived.Test.YtklbkkoojkmjbaaQFnActsx0
namespace Go.Proofs.Ytklbkkoojkmjbaa.QFnActs
open Go.RowKit Go.Proofs.YtklbkkoojkmjbaaW.PrintWords Go.Proofs.YtklbkkoojkmjbaaW.PrintLast Go.Proofs.YtklbkkoojkmjbaaW.PrintMore
attribute [local go_sem] max2_int min2_int max_two min_two max_three min_three max_four min_four   -- for this text's walks alone
open Go.Proofs.Ytklbkkoojkmjbaa.Short
set_option linter.unusedVariables false
set_option linter.unusedSimpArgs false

attribute [local go_sem high] gtr_str
/-! ### spec_l03Put: function 35 -/
mutual
def spec_l03Put.l0 : Nat → Int → List (S66) → ByteArray → ByteArray → Int → List (S66) → Option ((List (S66)))
 | 0, _, _, _, _, _, _ => none
 | k + 1, x6, x158000, x159000, x159001, x159002, x161000 => if x6 < (x158000.length : Int) then (if 0 ≤ x6 then (if (Op.bytesLess (((rd_T66 x158000 x6).f0).toList) x159000.toList) = true then (if x161000.length < 3518437208883 then (spec_l03Put.l0 k (wrap64 (x6 + 1)) x158000 x159000 x159001 x159002 (x161000 ++ [(⟨(rd_T66 x158000 x6).f0, (rd_T66 x158000 x6).f1, (rd_T66 x158000 x6).f2⟩ : S66)])) else (none)) else (spec_l03Put.l0 k (wrap64 (x6 + 1)) x158000 x159000 x159001 x159002 x161000)) else (none)) else (if x161000.length < 3518437208883 then (spec_l03Put.l1 k 0 x158000 x159000 x159001 x159002 (x161000 ++ [(⟨x159000, x159001, x159002⟩ : S66)])) else (none))
def spec_l03Put.l1 : Nat → Int → List (S66) → ByteArray → ByteArray → Int → List (S66) → Option ((List (S66)))
 | 0, _, _, _, _, _, _ => none
 | k + 1, x7, x158000, x159000, x159001, x159002, x161000 => if x7 < (x158000.length : Int) then (if 0 ≤ x7 then (if (Op.bytesLess x159000.toList (((rd_T66 x158000 x7).f0).toList)) = true then (if x161000.length < 3518437208883 then (spec_l03Put.l1 k (wrap64 (x7 + 1)) x158000 x159000 x159001 x159002 (x161000 ++ [(⟨(rd_T66 x158000 x7).f0, (rd_T66 x158000 x7).f1, (rd_T66 x158000 x7).f2⟩ : S66)])) else (none)) else (spec_l03Put.l1 k (wrap64 (x7 + 1)) x158000 x159000 x159001 x159002 x161000)) else (none)) else (some x161000)
end
def spec_l03Put.f (k : Nat) (l0_0 : List (S66)) (a1_0 : ByteArray) (a1_1 : ByteArray) (a1_2 : Int) : Option ((List (S66))) := spec_l03Put.l0 k 0 l0_0 a1_0 a1_1 a1_2 ([] : List (S66))
theorem spec_l03Put.mono_l : ∀ k, (∀ y0 y1 y2 y3 y4 y5, LeO (spec_l03Put.l0 k y0 y1 y2 y3 y4 y5) (spec_l03Put.l0 (k + 1) y0 y1 y2 y3 y4 y5)) ∧ (∀ y0 y1 y2 y3 y4 y5, LeO (spec_l03Put.l1 k y0 y1 y2 y3 y4 y5) (spec_l03Put.l1 (k + 1) y0 y1 y2 y3 y4 y5))
 | 0 => ⟨fun _ _ _ _ _ _ r h => by simp [spec_l03Put.l0] at h, fun _ _ _ _ _ _ r h => by simp [spec_l03Put.l1] at h⟩
 | k + 1 => by
  obtain ⟨ih0, ih1⟩ := spec_l03Put.mono_l k
  refine ⟨?_, ?_⟩
  ·intro y0 y1 y2 y3 y4 y5
   unfold spec_l03Put.l0
   repeat' first
   | (with_reducible exact ih0 _ _ _ _ _ _)
   | (with_reducible exact ih1 _ _ _ _ _ _)
   | (with_reducible exact LeO.refl _)
   | (with_reducible exact LeO.none _)
   | (with_reducible refine LeO.ite ?_ ?_)
   | (with_reducible refine LeO.bind ?_ (fun _ => ?_))
   | exact ih0 _ _ _ _ _ _
   | exact ih1 _ _ _ _ _ _
   | exact LeO.none _
   | refine LeO.ite ?_ ?_
   | refine LeO.bind ?_ (fun _ => ?_)
  ·intro y0 y1 y2 y3 y4 y5
   unfold spec_l03Put.l1
   repeat' first
   | (with_reducible exact ih0 _ _ _ _ _ _)
   | (with_reducible exact ih1 _ _ _ _ _ _)
   | (with_reducible exact LeO.refl _)
   | (with_reducible exact LeO.none _)
   | (with_reducible refine LeO.ite ?_ ?_)
   | (with_reducible refine LeO.bind ?_ (fun _ => ?_))
   | exact ih0 _ _ _ _ _ _
   | exact ih1 _ _ _ _ _ _
   | exact LeO.none _
   | refine LeO.ite ?_ ?_
   | refine LeO.bind ?_ (fun _ => ?_)
theorem spec_l03Put.mono : ∀ a0 a1 a2 a3 k, LeO (spec_l03Put.f k a0 a1 a2 a3) (spec_l03Put.f (k + 1) a0 a1 a2 a3) := by
 intro a0 a1 a2 a3 k
 obtain ⟨ih0, ih1⟩ := spec_l03Put.mono_l k
 unfold spec_l03Put.f
 repeat' first
   | (with_reducible exact ih0 _ _ _ _ _ _)
   | (with_reducible exact ih1 _ _ _ _ _ _)
   | (with_reducible exact LeO.refl _)
   | (with_reducible exact LeO.none _)
   | (with_reducible refine LeO.ite ?_ ?_)
   | (with_reducible refine LeO.bind ?_ (fun _ => ?_))
   | exact ih0 _ _ _ _ _ _
   | exact ih1 _ _ _ _ _ _
   | exact LeO.none _
   | refine LeO.ite ?_ ?_
   | refine LeO.bind ?_ (fun _ => ?_)
def spec_l03Put.T5 : Bool × List (List Nat × List Nat) := (true, [([], []), ([0], [0]), ([], []), ([1, 2], [1, 2]), ([3], [3]), ([4], [4]), ([], []), ([6], [6]), ([5, 7], [5, 7])])
def spec_l03Put.B5 : List Nat := [0, 1, 0, 7, 15, 31, 0, 64, 255]
theorem spec_l03Put.tab5 : rtab .any (opsOf Try.f35 5) = spec_l03Put.T5 := by kernel_rfl
theorem spec_l03Put.bits5 : waitsOk spec_l03Put.T5.2 spec_l03Put.B5 = true := by kernel_rfl
def spec_l03Put.T6 : Bool × List (List Nat × List Nat) := (true, [([], []), ([0], [0]), ([], []), ([2], [2]), ([], []), ([3, 4], [3, 4]), ([5], [5]), ([6], [6]), ([1, 7], [1, 7]), ([0, 1, 2, 3, 4, 5, 6, 7, 8], []), ([9, 8, 8, 0, 1, 2, 3, 4, 5, 6, 7, 8], [8, 9])])
def spec_l03Put.B6 : List Nat := [0, 1, 0, 4, 0, 28, 60, 124, 255, 511, 1023]
theorem spec_l03Put.tab6 : rtab .any (opsOf Try.f35 6) = spec_l03Put.T6 := by kernel_rfl
theorem spec_l03Put.bits6 : waitsOk spec_l03Put.T6.2 spec_l03Put.B6 = true := by kernel_rfl
def spec_l03Put.T11 : Bool × List (List Nat × List Nat) := (true, [([], []), ([0], [0]), ([], []), ([1, 2], [1, 2]), ([3], [3]), ([4], [4]), ([], []), ([6], [6]), ([5, 7], [5, 7])])
def spec_l03Put.B11 : List Nat := [0, 1, 0, 7, 15, 31, 0, 64, 255]
theorem spec_l03Put.tab11 : rtab .any (opsOf Try.f35 11) = spec_l03Put.T11 := by kernel_rfl
theorem spec_l03Put.bits11 : waitsOk spec_l03Put.T11.2 spec_l03Put.B11 = true := by kernel_rfl
def spec_l03Put.T12 : Bool × List (List Nat × List Nat) := (true, [([], []), ([0], [0]), ([], []), ([2], [2]), ([], []), ([3, 4], [3, 4]), ([5], [5]), ([6], [6]), ([1, 7], [1, 7]), ([0, 1, 2, 3, 4, 5, 6, 7, 8], []), ([9, 8, 8, 0, 1, 2, 3, 4, 5, 6, 7, 8], [8, 9])])
def spec_l03Put.B12 : List Nat := [0, 1, 0, 4, 0, 28, 60, 124, 255, 511, 1023]
theorem spec_l03Put.tab12 : rtab .any (opsOf Try.f35 12) = spec_l03Put.T12 := by kernel_rfl
theorem spec_l03Put.bits12 : waitsOk spec_l03Put.T12.2 spec_l03Put.B12 = true := by kernel_rfl
set_option maxHeartbeats 8000000 in
set_option maxRecDepth 100000 in
theorem spec_l03Put.calls (k : Nat) (A0_0 : Option Addr) (c0_0 : Nat) (l0_0 : List (S66)) (a1_0 : ByteArray) (a1_1 : ByteArray) (a1_2 : Int) (r : List (S66)) (w : World) (hr0_0 : Kd.C k66 w A0_0 l0_0.length l0_0) (hc0_0 : l0_0.length ≤ c0_0) (h : spec_l03Put.f k l0_0 a1_0 a1_1 a1_2 = some r) :
  Calls Try.prog 35 #[.agg #[.slice A0_0 l0_0.length c0_0], .agg #[.string a1_0, .string a1_1, .int .i64 a1_2]] w fun e w' => ∃ v0_ : Value, e = .returned (.agg #[v0_]) ∧ Kd.R k66 66 w' w.heap.size (fun _ => True) v0_ r ∧ Below w.heap.size w w' := by
 have hu31 := Try.underlying31
 have hu66 := Try.underlying66
 have HR0_0 := Aside0.mk hr0_0
 have HC0_0 := Aside0.mk hc0_0
 clear hr0_0 hc0_0
 have HB := Aside0.mk (Below.refl w.heap.size w)
 have H : (spec_l03Put.l0 k 0 l0_0 a1_0 a1_1 a1_2 ([] : List (S66))) = some r := h
 clear h
 have H' := Aside0.mk H
 clear H
 go_enter Try.func35, Try.ntmps35
 go_wp2_with (first | ((with_reducible refine gate_dst (N := 2) rfl ?_); refine box_event rfl (N := 2) rfl (cs := #[.slice A0_0 l0_0.length c0_0]) (t := 31) zrun ?_; intro gb157 hg w3 hbox hb; have BK157 := am (hbox); have GE157 := zge hg (zb0 HB.out); replace HB := zs0 hb HB; clear hb hbox hg) | ((with_reducible refine gate_dst (N := 3) rfl ?_); refine box_event rfl (N := 3) rfl (cs := #[.string a1_0, .string a1_1, .int .i64 a1_2]) (t := 66) zrun ?_; intro gb158 hg w4 hbox hb; have BK158 := am (hbox); have GE158 := zge hg (zb1 HB.out GE157.out); obtain ⟨NB157_158, NB158_157⟩ := zne hg BK157; replace BK157 := zk hb BK157; replace HB := zs1 hb HB GE157; clear hb hbox hg) | ((with_reducible refine gate_dst (N := 4) rfl ?_); refine box_event rfl (N := 4) rfl (cs := #[.slice none 0 0]) (t := 31) zrun ?_; intro gb159 hg w5 hbox hb; have BK159 := am (hbox); have GE159 := zge hg (zb2 HB.out GE157.out GE158.out); obtain ⟨NB157_159, NB159_157⟩ := zne hg BK157; obtain ⟨NB158_159, NB159_158⟩ := zne hg BK158; replace BK157 := zk hb BK157; replace BK158 := zk hb BK158; replace HB := zs2 hb HB GE157 GE158; clear hb hbox hg) | ((with_reducible refine gate_dst (N := 5) rfl ?_); refine box_event rfl (N := 5) rfl (cs := #[.slice none 0 0]) (t := 31) zrun ?_; intro gb160 hg w6 hbox hb; have BK160 := am (hbox); have GE160 := zge hg (zb3 HB.out GE157.out GE158.out GE159.out); obtain ⟨NB157_160, NB160_157⟩ := zne hg BK157; obtain ⟨NB158_160, NB160_158⟩ := zne hg BK158; obtain ⟨NB159_160, NB160_159⟩ := zne hg BK159; replace BK157 := zk hb BK157; replace BK158 := zk hb BK158; replace BK159 := zk hb BK159; replace HB := zs3 hb HB GE157 GE158 GE159; clear hb hbox hg; obtain ⟨hnb7, hnc7⟩ := zn2 NB160_157; obtain ⟨hnb8, hnc8⟩ := zn2 NB160_158; obtain ⟨hnb9, hnc9⟩ := zn2 NB160_159; obtain ⟨hcz10_0, hfz10_0⟩ := zc1 BK160.out))
 go_loopg [6] k (fun kq v6 w' => ∃ (x6_1 : Int) (x161000_1 : List (S66)) (u161000 : Value), v6 = .int .i64 x6_1 ∧ Aside0 (spec_l03Put.l0 kq x6_1 l0_0 a1_0 a1_1 a1_2 x161000_1 = some r) ∧ Aside0 (kq ≤ k) ∧ Aside0 (Kd.R k66 66 w' w.heap.size (fun k_ => k_ ≠ gb158) u161000 x161000_1) ∧ Aside0 (w'.heap[gb157]? = some (.cells #[(.slice A0_0 l0_0.length c0_0)] 31 (0, 0))) ∧ Aside0 (w'.heap[gb158]? = some (.cells #[.string a1_0, .string a1_1, .int .i64 a1_2] 66 (0, 0))) ∧ Aside0 (w'.heap[gb159]? = some (.cells #[(.slice none 0 0)] 31 (0, 0))) ∧ Aside0 (w'.heap[gb160]? = some (.cells #[u161000] 31 (0, 0))) ∧ Aside0 (Below w.heap.size w w'))
 case atStart => exact ⟨(0), (([] : List (S66))), (.slice none 0 0), (by first | rfl | (simp; done) | (simp [*]; done)), H', ⟨Nat.le_refl _⟩, ⟨by first | exact Kd.R_nil _ _ _ _ _ | exact Kd.N_nil _ _ _ _ _ | exact Kd.V_nil _ _ _ _ _ | exact Kd.Q_nil _ _ _ _ _ | exact Kd.S_nil _ _ _ _ _⟩, ⟨zf1 BK157.out NB157_160.out⟩, ⟨zf1 BK158.out NB158_160.out⟩, ⟨zf1 BK159.out NB159_160.out⟩, ⟨by (with_reducible repeat (first | refine blk_drewN ?_ _ | refine blk_drew ?_ | refine blk_alloc ?_ _)); refine blk_put (cs := #[.slice none 0 0]) ?_ 0 _ rfl; (with_reducible repeat (first | refine blk_drewN ?_ _ | refine blk_drew ?_ | refine blk_alloc ?_ _)); exact BK160.out⟩, ⟨zb4 HB.out GE157.out GE158.out GE159.out GE160.out⟩⟩
 case round =>
  clear H'
  obtain ⟨x6_1, x161000_1, u161000, rfl, HA, HK1, HO_161000, BK157, BK158, BK159, BK160, HB⟩ := hrel
  cases gk with
  | zero => exact absurd HA.out (by simp [spec_l03Put.l0])
  | succ k1 =>
   have H := HA.out
   clear HA
   simp only [spec_l03Put.l0] at H
   by_cases c11 : x6_1 < (l0_0.length : Int)
   ·rw [if_pos c11] at H
    have c11b0 : decide (x6_1 < (l0_0.length : Int)) = true := decide_eq_true c11
    have c11b1 : decide ((l0_0.length : Int) ≤ x6_1) = false := decide_eq_false (by omega)
    clear c11
    by_cases c12 : 0 ≤ x6_1
    ·rw [if_pos c12] at H
     have c12b0 : decide (0 ≤ x6_1) = true := decide_eq_true c12
     clear c12
     by_cases c13 : (Op.bytesLess (((rd_T66 l0_0 x6_1).f0).toList) a1_0.toList) = true
     ·rw [if_pos c13] at H
      have c13b0 : (Op.bytesLess (((rd_T66 l0_0 x6_1).f0).toList) a1_0.toList) = true := c13
      clear c13
      by_cases c14 : x161000_1.length < 3518437208883
      ·rw [if_pos c14] at H
       have LMc14 := Aside0.mk c14
       clear c14
       obtain ⟨y163, hy163⟩ : ∃ y_ : List (S66), y_ = (x161000_1 ++ [(⟨(rd_T66 l0_0 x6_1).f0, (rd_T66 l0_0 x6_1).f1, (rd_T66 l0_0 x6_1).f2⟩ : S66)]) := ⟨_, rfl⟩
       replace H : (spec_l03Put.l0 k1 (wrap64 (x6_1 + 1)) l0_0 a1_0 a1_1 a1_2 y163) = some r := by first | (rw [hy163]; with_reducible exact H) | (have H2_ := (Option.bind_some _ _).symm.trans H; rw [hy163]; with_reducible exact H2_) | (have H2_ := (Option.bind_some _ _).symm.trans H; with_reducible exact H2_) | with_reducible exact H | (rw [hy163]; exact H) | exact H
       have Ny163 := Aside0.mk hy163
       clear hy163
       have H' := Aside0.mk H
       clear H
       obtain ⟨hnb15, hnc15⟩ := zn2 NB157_158
       obtain ⟨hnb16, hnc16⟩ := zn2 NB157_159
       obtain ⟨hnb17, hnc17⟩ := zn2 NB157_160
       obtain ⟨hcz18_0, hfz18_0⟩ := zc1 BK157.out
       try go_wp2
       replace HO_161000 := am (Kd.R_drew HO_161000.out)
       replace BK157 := zw BK157
       replace BK158 := zw BK158
       replace BK159 := zw BK159
       replace BK160 := zw BK160
       replace HB := am (below_drew1 HB.out)
       have p161 : 0 ≤ (x6_1 : Int) := zpq
       have q161 : x6_1 < (l0_0.length : Int) := zpq
       obtain ⟨ad161, e161, hx161_0, hx161_1, hx161_2⟩ := at_T66 HR0_0.out x6_1 p161 q161
       have hw161_2 := hx161_2
       have hw161_1 := hx161_1
       have hw161_0 := hx161_0
       cases e161
       replace hx161_0 := (HB.out.cell (World.block_lt_of_cell? w _ hx161_0)).trans hx161_0
       replace hx161_1 := (HB.out.cell (World.block_lt_of_cell? w _ hx161_1)).trans hx161_1
       replace hx161_2 := (HB.out.cell (World.block_lt_of_cell? w _ hx161_2)).trans hx161_2
       replace p161 := eq_true p161
       replace q161 := eq_true q161
       refine start_ (n := 9) (S := fun w' => w'.cell? ⟨gb157, 0, none⟩ = some (.slice (some ad161) l0_0.length c0_0) ∧ w'.cell? ⟨gb158, 0, none⟩ = some (.string a1_0) ∧ w'.cell? ⟨gb158, 1, none⟩ = some (.string a1_1) ∧ w'.cell? ⟨gb158, 2, none⟩ = some (.int .i64 a1_2) ∧ w'.cell? (ad161.add ((x6_1).toNat * 3)) = some (.string ((rd_T66 l0_0 x6_1).f0)) ∧ w'.cell? ⟨(ad161.add ((x6_1).toNat * 3)).block, (ad161.add ((x6_1).toNat * 3)).off + 1, none⟩ = some (.string ((rd_T66 l0_0 x6_1).f1)) ∧ w'.cell? ⟨(ad161.add ((x6_1).toNat * 3)).block, (ad161.add ((x6_1).toNat * 3)).off + 2, none⟩ = some (.int .i64 ((rd_T66 l0_0 x6_1).f2))) (ds := []) #[false, false, false, false, false, false, false, false, false] (by kernel_rfl) rfl rfl ⟨ct BK157.out 0, ct BK158.out 0, ct BK158.out 1, ct BK158.out 2, ((HB.out.cell (World.block_lt_of_cell? w _ hw161_0)).trans hw161_0), ((HB.out.cell (World.block_lt_of_cell? w _ hw161_1)).trans hw161_1), ((HB.out.cell (World.block_lt_of_cell? w _ hw161_2)).trans hw161_2)⟩ (fun hHeld => ?_); refine with_tabW spec_l03Put.tab5 spec_l03Put.bits5 (fun HT_ HW_ => ?_)
       generalize wr.drew = w19 at HO_161000 BK157 BK158 BK159 BK160 HB hx161_0 hx161_1 hx161_2 hHeld ⊢
       refine zpu 0 16 #[true, false, false, false, false, false, false, false, false] HT_ ?_
       refine zpu 2 18 #[true, false, true, false, false, false, false, false, false] HT_ ?_
       refine zpu 6 22 #[true, false, true, false, false, false, true, false, false] HT_ ?_
       refine ztk7 1 17 #[true, true, true, false, false, false, true, false, false] HT_ HW_ hHeld ?_
       refine zpu 3 19 #[true, true, true, true, false, false, true, false, false] HT_ ?_
       refine zpu 4 20 #[true, true, true, true, true, false, true, false, false] HT_ ?_
       refine ztk7 5 21 #[true, true, true, true, true, true, true, false, false] HT_ HW_ hHeld ?_
       refine ztk7 7 23 #[true, true, true, true, true, true, true, true, false] HT_ HW_ hHeld ?_
       refine zpu 8 24 #[true, true, true, true, true, true, true, true, true] HT_ ?_
       refine zdn HT_ ?_
       try go_wp2
       replace HO_161000 := am (Kd.R_drew HO_161000.out)
       replace BK157 := zw BK157
       replace BK158 := zw BK158
       replace BK159 := zw BK159
       replace BK160 := zw BK160
       replace HB := am (below_drew1 HB.out)
       have p162 : 0 ≤ (x6_1 : Int) := zpq
       have q162 : x6_1 < (l0_0.length : Int) := zpq
       obtain ⟨ad162, e162, hx162_0, hx162_1, hx162_2⟩ := at_T66 HR0_0.out x6_1 p162 q162
       have hw162_2 := hx162_2
       have hw162_1 := hx162_1
       have hw162_0 := hx162_0
       obtain rfl : ad161 = ad162 := (by injection e162)
       replace hx162_0 := (HB.out.cell (World.block_lt_of_cell? w _ hx162_0)).trans hx162_0
       replace hx162_1 := (HB.out.cell (World.block_lt_of_cell? w _ hx162_1)).trans hx162_1
       replace hx162_2 := (HB.out.cell (World.block_lt_of_cell? w _ hx162_2)).trans hx162_2
       replace p162 := eq_true p162
       replace q162 := eq_true q162
       refine start_ (n := 11) (S := fun w' => w'.cell? ⟨gb160, 0, none⟩ = some (u161000) ∧ w'.cell? ⟨gb157, 0, none⟩ = some (.slice (some ad161) l0_0.length c0_0) ∧ w'.cell? (ad161.add ((x6_1).toNat * 3)) = some (.string ((rd_T66 l0_0 x6_1).f0)) ∧ w'.cell? ⟨(ad161.add ((x6_1).toNat * 3)).block, (ad161.add ((x6_1).toNat * 3)).off + 1, none⟩ = some (.string ((rd_T66 l0_0 x6_1).f1)) ∧ w'.cell? ⟨(ad161.add ((x6_1).toNat * 3)).block, (ad161.add ((x6_1).toNat * 3)).off + 2, none⟩ = some (.int .i64 ((rd_T66 l0_0 x6_1).f2))) (ds := [10]) #[false, false, false, false, false, false, false, false, false, false, false] (by kernel_rfl) rfl rfl ⟨ct BK160.out 0, ct BK157.out 0, ((HB.out.cell (World.block_lt_of_cell? w _ hw162_0)).trans hw162_0), ((HB.out.cell (World.block_lt_of_cell? w _ hw162_1)).trans hw162_1), ((HB.out.cell (World.block_lt_of_cell? w _ hw162_2)).trans hw162_2)⟩ (fun hHeld => ?_); refine with_tabW spec_l03Put.tab6 spec_l03Put.bits6 (fun HT_ HW_ => ?_)
       generalize w19.drew = w20 at HO_161000 BK157 BK158 BK159 BK160 HB hx162_0 hx162_1 hx162_2 hHeld ⊢
       refine zpu 0 25 #[true, false, false, false, false, false, false, false, false, false, false] HT_ ?_
       refine zpu 2 27 #[true, false, true, false, false, false, false, false, false, false, false] HT_ ?_
       refine zpu 4 29 #[true, false, true, false, true, false, false, false, false, false, false] HT_ ?_
       refine ztk5 1 26 #[true, true, true, false, true, false, false, false, false, false, false] HT_ HW_ hHeld ?_
       refine ztk5 3 28 #[true, true, true, true, true, false, false, false, false, false, false] HT_ HW_ hHeld ?_
       refine zpu 5 30 #[true, true, true, true, true, true, false, false, false, false, false] HT_ ?_
       refine ztk5 6 31 #[true, true, true, true, true, true, true, false, false, false, false] HT_ HW_ hHeld ?_
       refine zon 7 #[true, true, true, true, true, true, true, true, false, false, false] HT_ (fun K hK => ?_)
       refine value_ (w1 := ?_) (v := ?_) (by rfl) rfl ?_ ?_
       rotate_left 2
       ·go_simp
        constructor
        ·rfl
        ·rfl
       refine hK.out _ _ ⟨(blk_cell (blk_alloc BK160.out _) 0).trans rfl, (blk_cell (blk_alloc BK157.out _) 0).trans rfl, (World.cell?_alloc_lt _ _ _ (World.block_lt_of_cell? _ _ (((HB.out.cell (World.block_lt_of_cell? w _ hw162_0)).trans hw162_0)))).trans (((HB.out.cell (World.block_lt_of_cell? w _ hw162_0)).trans hw162_0)), (World.cell?_alloc_lt _ _ _ (World.block_lt_of_cell? _ _ (((HB.out.cell (World.block_lt_of_cell? w _ hw162_1)).trans hw162_1)))).trans (((HB.out.cell (World.block_lt_of_cell? w _ hw162_1)).trans hw162_1)), (World.cell?_alloc_lt _ _ _ (World.block_lt_of_cell? _ _ (((HB.out.cell (World.block_lt_of_cell? w _ hw162_2)).trans hw162_2)))).trans (((HB.out.cell (World.block_lt_of_cell? w _ hw162_2)).trans hw162_2))⟩ (fun hHeld => ?_)
       clear hK K
       refine znm 32 ?_
       refine zon 8 #[true, true, true, true, true, true, true, true, true, false, false] HT_ (fun K hK => ?_)
       refine Kd.R_append_step k66 (w0 := w) w.heap.size (by rfl) (.tmp 26) (.tmp 32) 29 66 (.agg #[(.string ⟨#[]⟩), (.string ⟨#[]⟩), (.int .i64 0)]) 40 rfl Try.underlying29 info66 rfl (by decide) (by omega) u161000 x161000_1 (⟨(rd_T66 l0_0 x6_1).f0, (rd_T66 l0_0 x6_1).f1, (rd_T66 l0_0 x6_1).f2⟩ : S66) [.string ((rd_T66 l0_0 x6_1).f0), .string ((rd_T66 l0_0 x6_1).f1), .int .i64 ((rd_T66 l0_0 x6_1).f2)] (fun k_ => k_ ≠ gb158) (fun _ => False) rfl rfl ?aP (fun _ hk => hk.elim) ?aF ?aO ?aB ?aS ?aL ?_
       (case aP => exact k66_mkM _ _ _ (⟨(rd_T66 l0_0 x6_1).f0, (rd_T66 l0_0 x6_1).f1, (rd_T66 l0_0 x6_1).f2⟩ : S66))
       (case aB => exact (zb4 HB.out GE157.out GE158.out GE159.out GE160.out))
       (case aF => exact (fun k_ hk => Kd.freshB (g := gb158) (o := .cells #[.string a1_0, .string a1_1, .int .i64 a1_2] 66 (0, 0)) (kx BK158.out) k_ hk))
       (case aO => exact (rx HO_161000.out))
       (case aS => exact (below_size (zb4 HB.out GE157.out GE158.out GE159.out GE160.out)))
       (case aL => have := LMc14.out; omega)
       intro v164 w21 ho hb hg hat
       rw [← Ny163.out] at ho
       have HO165 := am (ho)
       replace BK157 := am (blk_grown (g := gb157) (o := .cells #[.slice (some ad161) l0_0.length c0_0] 31 (0, 0)) (kx BK157.out) hg (Kd.R_ne HO_161000.out BK157.out (by decide)))
       replace BK158 := am (blk_grown (g := gb158) (o := .cells #[.string a1_0, .string a1_1, .int .i64 a1_2] 66 (0, 0)) (kx BK158.out) hg (Kd.R_away HO_161000.out (fun _ hk => hk)))
       replace BK159 := am (blk_grown (g := gb159) (o := .cells #[.slice none 0 0] 31 (0, 0)) (kx BK159.out) hg (Kd.R_ne HO_161000.out BK159.out (by decide)))
       replace BK160 := am (blk_grown (g := gb160) (o := .cells #[u161000] 31 (0, 0)) (kx BK160.out) hg (Kd.R_ne HO_161000.out BK160.out (by decide)))
       replace HB := am (hb)
       clear HO_161000 ho hb hg hat
       obtain ⟨Ao22, co22, eo22⟩ := Kd.R_slice HO165.out
       (first | subst eo22 | (injection eo22 with f1_ f2_ f3_; have f4_ := f1_.symm; have f5_ := f3_.symm; clear f1_ f2_ f3_; subst f4_; subst f5_))
       refine hK.out _ _ ⟨ct BK160.out 0, ct BK157.out 0, ((HB.out.cell (World.block_lt_of_cell? w _ hw162_0)).trans hw162_0), ((HB.out.cell (World.block_lt_of_cell? w _ hw162_1)).trans hw162_1), ((HB.out.cell (World.block_lt_of_cell? w _ hw162_2)).trans hw162_2)⟩ (fun hHeld => ?_)
       clear hK K
       refine znm 33 ?_
       refine zpu 9 34 #[true, true, true, true, true, true, true, true, true, true, false] HT_ ?_
       refine last_ (i := 10) (N := none) #[true, true, true, true, true, true, true, true, true, true, true] rfl rfl (one_of HT_.out (by kernel_rfl)) (by decide) (fun K hK => ?_)
       have hs23 : w21.cell? ⟨gb160, 0, none⟩ = some (u161000) := ct BK160.out 0
       have hfs23 := blk_frozen BK160.out 0
       have hns23_0 := NB157_160.out
       have hns23_1 := NB158_160.out
       have hns23_2 := NB159_160.out
       have hms23_0 := NB160_157.out
       have hms23_1 := NB160_158.out
       have hms23_2 := NB160_159.out
       refine skip_ (w1 := ?_) (by rfl) rfl ?_ ?_
       rotate_left
       ·go_simp
        rfl
       refine hK.out _ _ ?_
       clear hK K
       refine zdn HT_ ?_
       try go_wp2
       go_roundg k1
       case measure => have := HK1.out; omega
       case rel => exact ⟨(wrap64 (x6_1 + 1)), (y163), (.slice Ao22 y163.length co22), (by first | rfl | (simp; done) | (simp [*]; done)), H', ⟨by have := HK1.out; omega⟩, ⟨rx (zrf 0 (.slice Ao22 y163.length co22) HO165 BK160)⟩, ⟨zf1 BK157.out NB157_160.out⟩, ⟨zf1 BK158.out NB158_160.out⟩, ⟨zf1 BK159.out NB159_160.out⟩, ⟨by (with_reducible repeat (first | refine blk_drewN ?_ _ | refine blk_drew ?_ | refine blk_alloc ?_ _)); refine blk_put (cs := #[u161000]) ?_ 0 _ rfl; (with_reducible repeat (first | refine blk_drewN ?_ _ | refine blk_drew ?_ | refine blk_alloc ?_ _)); exact BK160.out⟩, ⟨zb4 HB.out GE157.out GE158.out GE159.out GE160.out⟩⟩
      ·rw [if_neg c14] at H
       exact absurd H (by simp)
     ·rw [if_neg c13] at H
      have c13b0 : (Op.bytesLess (((rd_T66 l0_0 x6_1).f0).toList) a1_0.toList) = false := by simpa using c13
      clear c13
      have H' := Aside0.mk H
      clear H
      obtain ⟨hnb24, hnc24⟩ := zn2 NB157_158
      obtain ⟨hnb25, hnc25⟩ := zn2 NB157_159
      obtain ⟨hnb26, hnc26⟩ := zn2 NB157_160
      obtain ⟨hcz27_0, hfz27_0⟩ := zc1 BK157.out
      try go_wp2
      replace HO_161000 := am (Kd.R_drew HO_161000.out)
      replace BK157 := zw BK157
      replace BK158 := zw BK158
      replace BK159 := zw BK159
      replace BK160 := zw BK160
      replace HB := am (below_drew1 HB.out)
      have p161 : 0 ≤ (x6_1 : Int) := zpq
      have q161 : x6_1 < (l0_0.length : Int) := zpq
      obtain ⟨ad161, e161, hx161_0, hx161_1, hx161_2⟩ := at_T66 HR0_0.out x6_1 p161 q161
      have hw161_2 := hx161_2
      have hw161_1 := hx161_1
      have hw161_0 := hx161_0
      cases e161
      replace hx161_0 := (HB.out.cell (World.block_lt_of_cell? w _ hx161_0)).trans hx161_0
      replace hx161_1 := (HB.out.cell (World.block_lt_of_cell? w _ hx161_1)).trans hx161_1
      replace hx161_2 := (HB.out.cell (World.block_lt_of_cell? w _ hx161_2)).trans hx161_2
      replace p161 := eq_true p161
      replace q161 := eq_true q161
      refine start_ (n := 9) (S := fun w' => w'.cell? ⟨gb157, 0, none⟩ = some (.slice (some ad161) l0_0.length c0_0) ∧ w'.cell? ⟨gb158, 0, none⟩ = some (.string a1_0) ∧ w'.cell? ⟨gb158, 1, none⟩ = some (.string a1_1) ∧ w'.cell? ⟨gb158, 2, none⟩ = some (.int .i64 a1_2) ∧ w'.cell? (ad161.add ((x6_1).toNat * 3)) = some (.string ((rd_T66 l0_0 x6_1).f0)) ∧ w'.cell? ⟨(ad161.add ((x6_1).toNat * 3)).block, (ad161.add ((x6_1).toNat * 3)).off + 1, none⟩ = some (.string ((rd_T66 l0_0 x6_1).f1)) ∧ w'.cell? ⟨(ad161.add ((x6_1).toNat * 3)).block, (ad161.add ((x6_1).toNat * 3)).off + 2, none⟩ = some (.int .i64 ((rd_T66 l0_0 x6_1).f2))) (ds := []) #[false, false, false, false, false, false, false, false, false] (by kernel_rfl) rfl rfl ⟨ct BK157.out 0, ct BK158.out 0, ct BK158.out 1, ct BK158.out 2, ((HB.out.cell (World.block_lt_of_cell? w _ hw161_0)).trans hw161_0), ((HB.out.cell (World.block_lt_of_cell? w _ hw161_1)).trans hw161_1), ((HB.out.cell (World.block_lt_of_cell? w _ hw161_2)).trans hw161_2)⟩ (fun hHeld => ?_); refine with_tabW spec_l03Put.tab5 spec_l03Put.bits5 (fun HT_ HW_ => ?_)
      generalize wr.drew = w28 at HO_161000 BK157 BK158 BK159 BK160 HB hx161_0 hx161_1 hx161_2 hHeld ⊢
      refine zpu 0 16 #[true, false, false, false, false, false, false, false, false] HT_ ?_
      refine zpu 2 18 #[true, false, true, false, false, false, false, false, false] HT_ ?_
      refine zpu 6 22 #[true, false, true, false, false, false, true, false, false] HT_ ?_
      refine ztk7 1 17 #[true, true, true, false, false, false, true, false, false] HT_ HW_ hHeld ?_
      refine zpu 3 19 #[true, true, true, true, false, false, true, false, false] HT_ ?_
      refine zpu 4 20 #[true, true, true, true, true, false, true, false, false] HT_ ?_
      refine ztk7 5 21 #[true, true, true, true, true, true, true, false, false] HT_ HW_ hHeld ?_
      refine ztk7 7 23 #[true, true, true, true, true, true, true, true, false] HT_ HW_ hHeld ?_
      refine zpu 8 24 #[true, true, true, true, true, true, true, true, true] HT_ ?_
      refine zdn HT_ ?_
      try go_wp2
      go_roundg k1
      case measure => have := HK1.out; omega
      case rel => exact ⟨(wrap64 (x6_1 + 1)), (x161000_1), (u161000), (by first | rfl | (simp; done) | (simp [*]; done)), H', ⟨by have := HK1.out; omega⟩, ⟨rx HO_161000.out⟩, ⟨kx BK157.out⟩, ⟨kx BK158.out⟩, ⟨kx BK159.out⟩, ⟨kx BK160.out⟩, ⟨zb4 HB.out GE157.out GE158.out GE159.out GE160.out⟩⟩
    ·rw [if_neg c12] at H
     exact absurd H (by simp)
   ·rw [if_neg c11] at H
    have c11b0 : decide (x6_1 < (l0_0.length : Int)) = false := decide_eq_false c11
    have c11b1 : decide ((l0_0.length : Int) ≤ x6_1) = true := decide_eq_true (by omega)
    clear c11
    by_cases c29 : x161000_1.length < 3518437208883
    ·rw [if_pos c29] at H
     have LMc29 := Aside0.mk c29
     clear c29
     obtain ⟨y166, hy166⟩ : ∃ y_ : List (S66), y_ = (x161000_1 ++ [(⟨a1_0, a1_1, a1_2⟩ : S66)]) := ⟨_, rfl⟩
     replace H : (spec_l03Put.l1 k1 0 l0_0 a1_0 a1_1 a1_2 y166) = some r := by first | (rw [hy166]; with_reducible exact H) | (have H2_ := (Option.bind_some _ _).symm.trans H; rw [hy166]; with_reducible exact H2_) | (have H2_ := (Option.bind_some _ _).symm.trans H; with_reducible exact H2_) | with_reducible exact H | (rw [hy166]; exact H) | exact H
     have Ny166 := Aside0.mk hy166
     clear hy166
     have H' := Aside0.mk H
     clear H
     obtain ⟨hnb30, hnc30⟩ := zn2 NB157_158
     obtain ⟨hnb31, hnc31⟩ := zn2 NB157_159
     obtain ⟨hnb32, hnc32⟩ := zn2 NB157_160
     obtain ⟨hcz33_0, hfz33_0⟩ := zc1 BK157.out
     obtain ⟨hnb34, hnc34⟩ := zn2 NB160_158
     obtain ⟨hnb35, hnc35⟩ := zn2 NB160_159
     obtain ⟨hcz36_0, hfz36_0⟩ := zc1 BK160.out
     obtain ⟨hnb37, hnc37⟩ := zn2 NB158_159
     obtain ⟨hcz38_0, hcz38_1, hcz38_2, hfz38_0, hfz38_1, hfz38_2⟩ := zc3 BK158.out
     go_wp2_with (first | ((with_reducible refine gate_builtin (b := .append) (xs := #[.tmp 36, .tmp 38]) rfl ?_); at_builtin; refine Kd.R_append k66 (w0 := w) w.heap.size rfl (.tmp 36) (.tmp 38) 29 66 (.agg #[(.string ⟨#[]⟩), (.string ⟨#[]⟩), (.int .i64 0)]) 40 rfl Try.underlying29 info66 rfl (by decide) (by omega) u161000 x161000_1 (⟨a1_0, a1_1, a1_2⟩ : S66) [.string a1_0, .string a1_1, .int .i64 a1_2] (fun k_ => k_ ≠ gb158) (fun _ => False) rfl rfl ?aP (fun _ hk => hk.elim) ?aF ?aO ?aB ?aS ?aL ?_; (case aP => exact k66_mkM _ _ _ (⟨a1_0, a1_1, a1_2⟩ : S66)); (case aB => exact (zb4 HB.out GE157.out GE158.out GE159.out GE160.out)); (case aF => exact (fun k_ hk => Kd.freshB (g := gb158) (o := .cells #[.string a1_0, .string a1_1, .int .i64 a1_2] 66 (0, 0)) (kx BK158.out) k_ hk)); (case aO => exact (rx HO_161000.out)); (case aS => exact (below_size (zb4 HB.out GE157.out GE158.out GE159.out GE160.out))); (case aL => have := LMc29.out; omega); intro v167 w39 ho hb hg hat; rw [← Ny166.out] at ho; have HO168 := am (ho); replace BK157 := am (blk_grown (g := gb157) (o := .cells #[.slice A0_0 l0_0.length c0_0] 31 (0, 0)) (kx BK157.out) hg (Kd.R_ne HO_161000.out BK157.out (by decide))); replace BK158 := am (blk_grown (g := gb158) (o := .cells #[.string a1_0, .string a1_1, .int .i64 a1_2] 66 (0, 0)) (kx BK158.out) hg (Kd.R_away HO_161000.out (fun _ hk => hk))); replace BK159 := am (blk_grown (g := gb159) (o := .cells #[.slice none 0 0] 31 (0, 0)) (kx BK159.out) hg (Kd.R_ne HO_161000.out BK159.out (by decide))); replace BK160 := am (blk_grown (g := gb160) (o := .cells #[u161000] 31 (0, 0)) (kx BK160.out) hg (Kd.R_ne HO_161000.out BK160.out (by decide))); replace HB := am (hb); clear HO_161000; clear ho hb hg hat; obtain ⟨Ao40, co40, eo40⟩ := Kd.R_slice HO168.out; subst eo40; obtain ⟨hcz41_0, hfz41_0⟩ := zc1 BK160.out))
     go_loopg [7] k1 (fun kq v7 w' => ∃ (x7_2 : Int) (x161000_2 : List (S66)) (u161000 : Value), v7 = .int .i64 x7_2 ∧ Aside0 (spec_l03Put.l1 kq x7_2 l0_0 a1_0 a1_1 a1_2 x161000_2 = some r) ∧ Aside0 (kq ≤ k1) ∧ Aside0 (Kd.R k66 66 w' w.heap.size (fun k_ => k_ ≠ gb158) u161000 x161000_2) ∧ Aside0 (w'.heap[gb157]? = some (.cells #[(.slice A0_0 l0_0.length c0_0)] 31 (0, 0))) ∧ Aside0 (w'.heap[gb158]? = some (.cells #[.string a1_0, .string a1_1, .int .i64 a1_2] 66 (0, 0))) ∧ Aside0 (w'.heap[gb159]? = some (.cells #[(.slice none 0 0)] 31 (0, 0))) ∧ Aside0 (w'.heap[gb160]? = some (.cells #[u161000] 31 (0, 0))) ∧ Aside0 (Below w.heap.size w w'))
     case atStart => exact ⟨(0), (y166), (.slice Ao40 y166.length co40), (by first | rfl | (simp; done) | (simp [*]; done)), H', ⟨Nat.le_refl _⟩, ⟨rx (zrf 0 (.slice Ao40 y166.length co40) HO168 BK160)⟩, ⟨zf1 BK157.out NB157_160.out⟩, ⟨zf1 BK158.out NB158_160.out⟩, ⟨zf1 BK159.out NB159_160.out⟩, ⟨by (with_reducible repeat (first | refine blk_drewN ?_ _ | refine blk_drew ?_ | refine blk_alloc ?_ _)); refine blk_put (cs := #[u161000]) ?_ 0 _ rfl; (with_reducible repeat (first | refine blk_drewN ?_ _ | refine blk_drew ?_ | refine blk_alloc ?_ _)); exact BK160.out⟩, ⟨zb4 HB.out GE157.out GE158.out GE159.out GE160.out⟩⟩
     case round =>
      clear H'
      obtain ⟨x7_2, x161000_2, u161000, rfl, HA, HK2, HO_161000, BK157, BK158, BK159, BK160, HB⟩ := hrel
      cases gk with
      | zero => exact absurd HA.out (by simp [spec_l03Put.l1])
      | succ k2 =>
       have H := HA.out
       clear HA
       simp only [spec_l03Put.l1] at H
       by_cases c42 : x7_2 < (l0_0.length : Int)
       ·rw [if_pos c42] at H
        have c42b0 : decide (x7_2 < (l0_0.length : Int)) = true := decide_eq_true c42
        have c42b1 : decide ((l0_0.length : Int) ≤ x7_2) = false := decide_eq_false (by omega)
        clear c42
        by_cases c43 : 0 ≤ x7_2
        ·rw [if_pos c43] at H
         have c43b0 : decide (0 ≤ x7_2) = true := decide_eq_true c43
         clear c43
         by_cases c44 : (Op.bytesLess a1_0.toList (((rd_T66 l0_0 x7_2).f0).toList)) = true
         ·rw [if_pos c44] at H
          have c44b0 : (Op.bytesLess a1_0.toList (((rd_T66 l0_0 x7_2).f0).toList)) = true := c44
          clear c44
          by_cases c45 : x161000_2.length < 3518437208883
          ·rw [if_pos c45] at H
           have LMc45 := Aside0.mk c45
           clear c45
           obtain ⟨y171, hy171⟩ : ∃ y_ : List (S66), y_ = (x161000_2 ++ [(⟨(rd_T66 l0_0 x7_2).f0, (rd_T66 l0_0 x7_2).f1, (rd_T66 l0_0 x7_2).f2⟩ : S66)]) := ⟨_, rfl⟩
           replace H : (spec_l03Put.l1 k2 (wrap64 (x7_2 + 1)) l0_0 a1_0 a1_1 a1_2 y171) = some r := by first | (rw [hy171]; with_reducible exact H) | (have H2_ := (Option.bind_some _ _).symm.trans H; rw [hy171]; with_reducible exact H2_) | (have H2_ := (Option.bind_some _ _).symm.trans H; with_reducible exact H2_) | with_reducible exact H | (rw [hy171]; exact H) | exact H
           have Ny171 := Aside0.mk hy171
           clear hy171
           have H' := Aside0.mk H
           clear H
           obtain ⟨hnb46, hnc46⟩ := zn2 NB157_158
           obtain ⟨hnb47, hnc47⟩ := zn2 NB157_159
           obtain ⟨hnb48, hnc48⟩ := zn2 NB157_160
           obtain ⟨hcz49_0, hfz49_0⟩ := zc1 BK157.out
           try go_wp2
           replace HO_161000 := am (Kd.R_drew HO_161000.out)
           replace BK157 := zw BK157
           replace BK158 := zw BK158
           replace BK159 := zw BK159
           replace BK160 := zw BK160
           replace HB := am (below_drew1 HB.out)
           have p169 : 0 ≤ (x7_2 : Int) := zpq
           have q169 : x7_2 < (l0_0.length : Int) := zpq
           obtain ⟨ad169, e169, hx169_0, hx169_1, hx169_2⟩ := at_T66 HR0_0.out x7_2 p169 q169
           have hw169_2 := hx169_2
           have hw169_1 := hx169_1
           have hw169_0 := hx169_0
           cases e169
           replace hx169_0 := (HB.out.cell (World.block_lt_of_cell? w _ hx169_0)).trans hx169_0
           replace hx169_1 := (HB.out.cell (World.block_lt_of_cell? w _ hx169_1)).trans hx169_1
           replace hx169_2 := (HB.out.cell (World.block_lt_of_cell? w _ hx169_2)).trans hx169_2
           replace p169 := eq_true p169
           replace q169 := eq_true q169
           refine start_ (n := 9) (S := fun w' => w'.cell? ⟨gb157, 0, none⟩ = some (.slice (some ad169) l0_0.length c0_0) ∧ w'.cell? ⟨gb158, 0, none⟩ = some (.string a1_0) ∧ w'.cell? ⟨gb158, 1, none⟩ = some (.string a1_1) ∧ w'.cell? ⟨gb158, 2, none⟩ = some (.int .i64 a1_2) ∧ w'.cell? (ad169.add ((x7_2).toNat * 3)) = some (.string ((rd_T66 l0_0 x7_2).f0)) ∧ w'.cell? ⟨(ad169.add ((x7_2).toNat * 3)).block, (ad169.add ((x7_2).toNat * 3)).off + 1, none⟩ = some (.string ((rd_T66 l0_0 x7_2).f1)) ∧ w'.cell? ⟨(ad169.add ((x7_2).toNat * 3)).block, (ad169.add ((x7_2).toNat * 3)).off + 2, none⟩ = some (.int .i64 ((rd_T66 l0_0 x7_2).f2))) (ds := []) #[false, false, false, false, false, false, false, false, false] (by kernel_rfl) rfl rfl ⟨ct BK157.out 0, ct BK158.out 0, ct BK158.out 1, ct BK158.out 2, ((HB.out.cell (World.block_lt_of_cell? w _ hw169_0)).trans hw169_0), ((HB.out.cell (World.block_lt_of_cell? w _ hw169_1)).trans hw169_1), ((HB.out.cell (World.block_lt_of_cell? w _ hw169_2)).trans hw169_2)⟩ (fun hHeld => ?_); refine with_tabW spec_l03Put.tab11 spec_l03Put.bits11 (fun HT_ HW_ => ?_)
           generalize wr.drew = w50 at HO_161000 BK157 BK158 BK159 BK160 HB hx169_0 hx169_1 hx169_2 hHeld ⊢
           refine zpu 0 48 #[true, false, false, false, false, false, false, false, false] HT_ ?_
           refine zpu 2 50 #[true, false, true, false, false, false, false, false, false] HT_ ?_
           refine zpu 6 54 #[true, false, true, false, false, false, true, false, false] HT_ ?_
           refine ztk7 1 49 #[true, true, true, false, false, false, true, false, false] HT_ HW_ hHeld ?_
           refine zpu 3 51 #[true, true, true, true, false, false, true, false, false] HT_ ?_
           refine zpu 4 52 #[true, true, true, true, true, false, true, false, false] HT_ ?_
           refine ztk7 5 53 #[true, true, true, true, true, true, true, false, false] HT_ HW_ hHeld ?_
           refine ztk7 7 55 #[true, true, true, true, true, true, true, true, false] HT_ HW_ hHeld ?_
           refine zpu 8 56 #[true, true, true, true, true, true, true, true, true] HT_ ?_
           refine zdn HT_ ?_
           try go_wp2
           replace HO_161000 := am (Kd.R_drew HO_161000.out)
           replace BK157 := zw BK157
           replace BK158 := zw BK158
           replace BK159 := zw BK159
           replace BK160 := zw BK160
           replace HB := am (below_drew1 HB.out)
           have p170 : 0 ≤ (x7_2 : Int) := zpq
           have q170 : x7_2 < (l0_0.length : Int) := zpq
           obtain ⟨ad170, e170, hx170_0, hx170_1, hx170_2⟩ := at_T66 HR0_0.out x7_2 p170 q170
           have hw170_2 := hx170_2
           have hw170_1 := hx170_1
           have hw170_0 := hx170_0
           obtain rfl : ad169 = ad170 := (by injection e170)
           replace hx170_0 := (HB.out.cell (World.block_lt_of_cell? w _ hx170_0)).trans hx170_0
           replace hx170_1 := (HB.out.cell (World.block_lt_of_cell? w _ hx170_1)).trans hx170_1
           replace hx170_2 := (HB.out.cell (World.block_lt_of_cell? w _ hx170_2)).trans hx170_2
           replace p170 := eq_true p170
           replace q170 := eq_true q170
           refine start_ (n := 11) (S := fun w' => w'.cell? ⟨gb160, 0, none⟩ = some (u161000) ∧ w'.cell? ⟨gb157, 0, none⟩ = some (.slice (some ad169) l0_0.length c0_0) ∧ w'.cell? (ad169.add ((x7_2).toNat * 3)) = some (.string ((rd_T66 l0_0 x7_2).f0)) ∧ w'.cell? ⟨(ad169.add ((x7_2).toNat * 3)).block, (ad169.add ((x7_2).toNat * 3)).off + 1, none⟩ = some (.string ((rd_T66 l0_0 x7_2).f1)) ∧ w'.cell? ⟨(ad169.add ((x7_2).toNat * 3)).block, (ad169.add ((x7_2).toNat * 3)).off + 2, none⟩ = some (.int .i64 ((rd_T66 l0_0 x7_2).f2))) (ds := [10]) #[false, false, false, false, false, false, false, false, false, false, false] (by kernel_rfl) rfl rfl ⟨ct BK160.out 0, ct BK157.out 0, ((HB.out.cell (World.block_lt_of_cell? w _ hw170_0)).trans hw170_0), ((HB.out.cell (World.block_lt_of_cell? w _ hw170_1)).trans hw170_1), ((HB.out.cell (World.block_lt_of_cell? w _ hw170_2)).trans hw170_2)⟩ (fun hHeld => ?_); refine with_tabW spec_l03Put.tab12 spec_l03Put.bits12 (fun HT_ HW_ => ?_)
           generalize w50.drew = w51 at HO_161000 BK157 BK158 BK159 BK160 HB hx170_0 hx170_1 hx170_2 hHeld ⊢
           refine zpu 0 57 #[true, false, false, false, false, false, false, false, false, false, false] HT_ ?_
           refine zpu 2 59 #[true, false, true, false, false, false, false, false, false, false, false] HT_ ?_
           refine zpu 4 61 #[true, false, true, false, true, false, false, false, false, false, false] HT_ ?_
           refine ztk5 1 58 #[true, true, true, false, true, false, false, false, false, false, false] HT_ HW_ hHeld ?_
           refine ztk5 3 60 #[true, true, true, true, true, false, false, false, false, false, false] HT_ HW_ hHeld ?_
           refine zpu 5 62 #[true, true, true, true, true, true, false, false, false, false, false] HT_ ?_
           refine ztk5 6 63 #[true, true, true, true, true, true, true, false, false, false, false] HT_ HW_ hHeld ?_
           refine zon 7 #[true, true, true, true, true, true, true, true, false, false, false] HT_ (fun K hK => ?_)
           refine value_ (w1 := ?_) (v := ?_) (by rfl) rfl ?_ ?_
           rotate_left 2
           ·go_simp
            constructor
            ·rfl
            ·rfl
           refine hK.out _ _ ⟨(blk_cell (blk_alloc BK160.out _) 0).trans rfl, (blk_cell (blk_alloc BK157.out _) 0).trans rfl, (World.cell?_alloc_lt _ _ _ (World.block_lt_of_cell? _ _ (((HB.out.cell (World.block_lt_of_cell? w _ hw170_0)).trans hw170_0)))).trans (((HB.out.cell (World.block_lt_of_cell? w _ hw170_0)).trans hw170_0)), (World.cell?_alloc_lt _ _ _ (World.block_lt_of_cell? _ _ (((HB.out.cell (World.block_lt_of_cell? w _ hw170_1)).trans hw170_1)))).trans (((HB.out.cell (World.block_lt_of_cell? w _ hw170_1)).trans hw170_1)), (World.cell?_alloc_lt _ _ _ (World.block_lt_of_cell? _ _ (((HB.out.cell (World.block_lt_of_cell? w _ hw170_2)).trans hw170_2)))).trans (((HB.out.cell (World.block_lt_of_cell? w _ hw170_2)).trans hw170_2))⟩ (fun hHeld => ?_)
           clear hK K
           refine znm 64 ?_
           refine zon 8 #[true, true, true, true, true, true, true, true, true, false, false] HT_ (fun K hK => ?_)
           refine Kd.R_append_step k66 (w0 := w) w.heap.size (by rfl) (.tmp 58) (.tmp 64) 29 66 (.agg #[(.string ⟨#[]⟩), (.string ⟨#[]⟩), (.int .i64 0)]) 40 rfl Try.underlying29 info66 rfl (by decide) (by omega) u161000 x161000_2 (⟨(rd_T66 l0_0 x7_2).f0, (rd_T66 l0_0 x7_2).f1, (rd_T66 l0_0 x7_2).f2⟩ : S66) [.string ((rd_T66 l0_0 x7_2).f0), .string ((rd_T66 l0_0 x7_2).f1), .int .i64 ((rd_T66 l0_0 x7_2).f2)] (fun k_ => k_ ≠ gb158) (fun _ => False) rfl rfl ?aP (fun _ hk => hk.elim) ?aF ?aO ?aB ?aS ?aL ?_
           (case aP => exact k66_mkM _ _ _ (⟨(rd_T66 l0_0 x7_2).f0, (rd_T66 l0_0 x7_2).f1, (rd_T66 l0_0 x7_2).f2⟩ : S66))
           (case aB => exact (zb4 HB.out GE157.out GE158.out GE159.out GE160.out))
           (case aF => exact (fun k_ hk => Kd.freshB (g := gb158) (o := .cells #[.string a1_0, .string a1_1, .int .i64 a1_2] 66 (0, 0)) (kx BK158.out) k_ hk))
           (case aO => exact (rx HO_161000.out))
           (case aS => exact (below_size (zb4 HB.out GE157.out GE158.out GE159.out GE160.out)))
           (case aL => have := LMc45.out; omega)
           intro v172 w52 ho hb hg hat
           rw [← Ny171.out] at ho
           have HO173 := am (ho)
           replace BK157 := am (blk_grown (g := gb157) (o := .cells #[.slice (some ad169) l0_0.length c0_0] 31 (0, 0)) (kx BK157.out) hg (Kd.R_ne HO_161000.out BK157.out (by decide)))
           replace BK158 := am (blk_grown (g := gb158) (o := .cells #[.string a1_0, .string a1_1, .int .i64 a1_2] 66 (0, 0)) (kx BK158.out) hg (Kd.R_away HO_161000.out (fun _ hk => hk)))
           replace BK159 := am (blk_grown (g := gb159) (o := .cells #[.slice none 0 0] 31 (0, 0)) (kx BK159.out) hg (Kd.R_ne HO_161000.out BK159.out (by decide)))
           replace BK160 := am (blk_grown (g := gb160) (o := .cells #[u161000] 31 (0, 0)) (kx BK160.out) hg (Kd.R_ne HO_161000.out BK160.out (by decide)))
           replace HB := am (hb)
           clear HO_161000 ho hb hg hat
           obtain ⟨Ao53, co53, eo53⟩ := Kd.R_slice HO173.out
           (first | subst eo53 | (injection eo53 with f1_ f2_ f3_; have f4_ := f1_.symm; have f5_ := f3_.symm; clear f1_ f2_ f3_; subst f4_; subst f5_))
           refine hK.out _ _ ⟨ct BK160.out 0, ct BK157.out 0, ((HB.out.cell (World.block_lt_of_cell? w _ hw170_0)).trans hw170_0), ((HB.out.cell (World.block_lt_of_cell? w _ hw170_1)).trans hw170_1), ((HB.out.cell (World.block_lt_of_cell? w _ hw170_2)).trans hw170_2)⟩ (fun hHeld => ?_)
           clear hK K
           refine znm 65 ?_
           refine zpu 9 66 #[true, true, true, true, true, true, true, true, true, true, false] HT_ ?_
           refine last_ (i := 10) (N := none) #[true, true, true, true, true, true, true, true, true, true, true] rfl rfl (one_of HT_.out (by kernel_rfl)) (by decide) (fun K hK => ?_)
           have hs54 : w52.cell? ⟨gb160, 0, none⟩ = some (u161000) := ct BK160.out 0
           have hfs54 := blk_frozen BK160.out 0
           have hns54_0 := NB157_160.out
           have hns54_1 := NB158_160.out
           have hns54_2 := NB159_160.out
           have hms54_0 := NB160_157.out
           have hms54_1 := NB160_158.out
           have hms54_2 := NB160_159.out
           refine skip_ (w1 := ?_) (by rfl) rfl ?_ ?_
           rotate_left
           ·go_simp
            rfl
           refine hK.out _ _ ?_
           clear hK K
           refine zdn HT_ ?_
           try go_wp2
           go_roundg k2
           case measure => have := HK1.out; have := HK2.out; omega
           case rel => exact ⟨(wrap64 (x7_2 + 1)), (y171), (.slice Ao53 y171.length co53), (by first | rfl | (simp; done) | (simp [*]; done)), H', ⟨by have := HK1.out; have := HK2.out; omega⟩, ⟨rx (zrf 0 (.slice Ao53 y171.length co53) HO173 BK160)⟩, ⟨zf1 BK157.out NB157_160.out⟩, ⟨zf1 BK158.out NB158_160.out⟩, ⟨zf1 BK159.out NB159_160.out⟩, ⟨by (with_reducible repeat (first | refine blk_drewN ?_ _ | refine blk_drew ?_ | refine blk_alloc ?_ _)); refine blk_put (cs := #[u161000]) ?_ 0 _ rfl; (with_reducible repeat (first | refine blk_drewN ?_ _ | refine blk_drew ?_ | refine blk_alloc ?_ _)); exact BK160.out⟩, ⟨zb4 HB.out GE157.out GE158.out GE159.out GE160.out⟩⟩
          ·rw [if_neg c45] at H
           exact absurd H (by simp)
         ·rw [if_neg c44] at H
          have c44b0 : (Op.bytesLess a1_0.toList (((rd_T66 l0_0 x7_2).f0).toList)) = false := by simpa using c44
          clear c44
          have H' := Aside0.mk H
          clear H
          obtain ⟨hnb55, hnc55⟩ := zn2 NB157_158
          obtain ⟨hnb56, hnc56⟩ := zn2 NB157_159
          obtain ⟨hnb57, hnc57⟩ := zn2 NB157_160
          obtain ⟨hcz58_0, hfz58_0⟩ := zc1 BK157.out
          try go_wp2
          replace HO_161000 := am (Kd.R_drew HO_161000.out)
          replace BK157 := zw BK157
          replace BK158 := zw BK158
          replace BK159 := zw BK159
          replace BK160 := zw BK160
          replace HB := am (below_drew1 HB.out)
          have p169 : 0 ≤ (x7_2 : Int) := zpq
          have q169 : x7_2 < (l0_0.length : Int) := zpq
          obtain ⟨ad169, e169, hx169_0, hx169_1, hx169_2⟩ := at_T66 HR0_0.out x7_2 p169 q169
          have hw169_2 := hx169_2
          have hw169_1 := hx169_1
          have hw169_0 := hx169_0
          cases e169
          replace hx169_0 := (HB.out.cell (World.block_lt_of_cell? w _ hx169_0)).trans hx169_0
          replace hx169_1 := (HB.out.cell (World.block_lt_of_cell? w _ hx169_1)).trans hx169_1
          replace hx169_2 := (HB.out.cell (World.block_lt_of_cell? w _ hx169_2)).trans hx169_2
          replace p169 := eq_true p169
          replace q169 := eq_true q169
          refine start_ (n := 9) (S := fun w' => w'.cell? ⟨gb157, 0, none⟩ = some (.slice (some ad169) l0_0.length c0_0) ∧ w'.cell? ⟨gb158, 0, none⟩ = some (.string a1_0) ∧ w'.cell? ⟨gb158, 1, none⟩ = some (.string a1_1) ∧ w'.cell? ⟨gb158, 2, none⟩ = some (.int .i64 a1_2) ∧ w'.cell? (ad169.add ((x7_2).toNat * 3)) = some (.string ((rd_T66 l0_0 x7_2).f0)) ∧ w'.cell? ⟨(ad169.add ((x7_2).toNat * 3)).block, (ad169.add ((x7_2).toNat * 3)).off + 1, none⟩ = some (.string ((rd_T66 l0_0 x7_2).f1)) ∧ w'.cell? ⟨(ad169.add ((x7_2).toNat * 3)).block, (ad169.add ((x7_2).toNat * 3)).off + 2, none⟩ = some (.int .i64 ((rd_T66 l0_0 x7_2).f2))) (ds := []) #[false, false, false, false, false, false, false, false, false] (by kernel_rfl) rfl rfl ⟨ct BK157.out 0, ct BK158.out 0, ct BK158.out 1, ct BK158.out 2, ((HB.out.cell (World.block_lt_of_cell? w _ hw169_0)).trans hw169_0), ((HB.out.cell (World.block_lt_of_cell? w _ hw169_1)).trans hw169_1), ((HB.out.cell (World.block_lt_of_cell? w _ hw169_2)).trans hw169_2)⟩ (fun hHeld => ?_); refine with_tabW spec_l03Put.tab11 spec_l03Put.bits11 (fun HT_ HW_ => ?_)
          generalize wr.drew = w59 at HO_161000 BK157 BK158 BK159 BK160 HB hx169_0 hx169_1 hx169_2 hHeld ⊢
          refine zpu 0 48 #[true, false, false, false, false, false, false, false, false] HT_ ?_
          refine zpu 2 50 #[true, false, true, false, false, false, false, false, false] HT_ ?_
          refine zpu 6 54 #[true, false, true, false, false, false, true, false, false] HT_ ?_
          refine ztk7 1 49 #[true, true, true, false, false, false, true, false, false] HT_ HW_ hHeld ?_
          refine zpu 3 51 #[true, true, true, true, false, false, true, false, false] HT_ ?_
          refine zpu 4 52 #[true, true, true, true, true, false, true, false, false] HT_ ?_
          refine ztk7 5 53 #[true, true, true, true, true, true, true, false, false] HT_ HW_ hHeld ?_
          refine ztk7 7 55 #[true, true, true, true, true, true, true, true, false] HT_ HW_ hHeld ?_
          refine zpu 8 56 #[true, true, true, true, true, true, true, true, true] HT_ ?_
          refine zdn HT_ ?_
          try go_wp2
          go_roundg k2
          case measure => have := HK1.out; have := HK2.out; omega
          case rel => exact ⟨(wrap64 (x7_2 + 1)), (x161000_2), (u161000), (by first | rfl | (simp; done) | (simp [*]; done)), H', ⟨by have := HK1.out; have := HK2.out; omega⟩, ⟨rx HO_161000.out⟩, ⟨kx BK157.out⟩, ⟨kx BK158.out⟩, ⟨kx BK159.out⟩, ⟨kx BK160.out⟩, ⟨zb4 HB.out GE157.out GE158.out GE159.out GE160.out⟩⟩
        ·rw [if_neg c43] at H
         exact absurd H (by simp)
       ·rw [if_neg c42] at H
        have c42b0 : decide (x7_2 < (l0_0.length : Int)) = false := decide_eq_false c42
        have c42b1 : decide ((l0_0.length : Int) ≤ x7_2) = true := decide_eq_true (by omega)
        clear c42
        obtain rfl := Option.some.inj H
        obtain ⟨hnb60, hnc60⟩ := zn2 NB157_158
        obtain ⟨hnb61, hnc61⟩ := zn2 NB157_159
        obtain ⟨hnb62, hnc62⟩ := zn2 NB157_160
        obtain ⟨hcz63_0, hfz63_0⟩ := zc1 BK157.out
        obtain ⟨hnb64, hnc64⟩ := zn2 NB160_158
        obtain ⟨hnb65, hnc65⟩ := zn2 NB160_159
        obtain ⟨hcz66_0, hfz66_0⟩ := zc1 BK160.out
        obtain ⟨Ao67, co67, eo67⟩ := Kd.R_slice HO_161000.out
        subst eo67
        obtain ⟨hnb68, hnc68⟩ := zn2 NB159_158
        obtain ⟨hcz69_0, hfz69_0⟩ := zc1 BK159.out
        go_wp2
        refine bodyPost_ret (results_cell_row rfl _ _ gb159 31 #[.slice Ao67 x161000_2.length co67] (0, 0) _ rfl (zp0 BK159.out) Try.underlying31 rfl (by kernel_rfl)) rfl ?_
        exact ⟨_, by first | rfl | (simp [errW_none, errW_some] <;> rfl) | (simp [*, errW_none, errW_some] <;> rfl), rx (Kd.R_mono (Kd.R_far (p := ⟨gb159, 0, none⟩) (Kd.R_types HO_161000.out BK159.out (by decide)) (fun _ hk => hk.2) (.slice Ao67 x161000_2.length co67)) (fun _ hk => trivial)), zb4 HB.out GE157.out GE158.out GE159.out GE160.out⟩
    ·rw [if_neg c29] at H
     exact absurd H (by simp)

end Go.Proofs.Ytklbkkoojkmjbaa.QFnActs
