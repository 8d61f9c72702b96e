/- Written by the kit's print.py, called by our own print2.sh with one import more; not by print.sh. -/
import Derived.Test.YtklbkkoojkmjbaaQFnExactCutActsx0
namespace Go.Proofs.Ytklbkkoojkmjbaa.QFnExactCutActs
open Go.RowKit Go.Proofs.YtklbkkoojkmjbaaW.PrintWords Go.Proofs.YtklbkkoojkmjbaaW.PrintLast Go.Proofs.YtklbkkoojkmjbaaW.PrintMore
attribute [local go_sem] max2_int min2_int max_two min_two max_three min_three max_four min_four   -- for this text's walks alone
open Go.Proofs.Ytklbkkoojkmjbaa.Short
set_option linter.unusedVariables false
set_option linter.unusedSimpArgs false

/-! ### spec_l03Without: function 36 -/
def spec_l03Without.l0 : Nat → ByteArray → Int → List (S66) → List (S66) → Option ((List (S66)))
 | 0, _, _, _, _ => none
 | k + 1, x1, x6, x291000, x293000 => if x6 < (x291000.length : Int) then (if 0 ≤ x6 then (if ((rd_T66 x291000 x6).f0).toList = x1.toList then (spec_l03Without.l0 k x1 (wrap64 (x6 + 1)) x291000 x293000) else (if x293000.length < 3518437208883 then (spec_l03Without.l0 k x1 (wrap64 (x6 + 1)) x291000 (x293000 ++ [(⟨(rd_T66 x291000 x6).f0, (rd_T66 x291000 x6).f1, (rd_T66 x291000 x6).f2⟩ : S66)])) else (none))) else (none)) else (some x293000)
def spec_l03Without.f (k : Nat) (l0_0 : List (S66)) (a1 : ByteArray) : Option ((List (S66))) := spec_l03Without.l0 k a1 0 l0_0 ([] : List (S66))
theorem spec_l03Without.mono_l : ∀ k, (∀ y0 y1 y2 y3, LeO (spec_l03Without.l0 k y0 y1 y2 y3) (spec_l03Without.l0 (k + 1) y0 y1 y2 y3))
 | 0 => fun _ _ _ _ r h => by simp [spec_l03Without.l0] at h
 | k + 1 => by
  have ih0 := spec_l03Without.mono_l k
  ·intro y0 y1 y2 y3
   unfold spec_l03Without.l0
   repeat' first
   | (with_reducible exact ih0 _ _ _ _)
   | (with_reducible exact LeO.refl _)
   | (with_reducible exact LeO.none _)
   | (with_reducible refine LeO.ite ?_ ?_)
   | (with_reducible refine LeO.bind ?_ (fun _ => ?_))
   | exact ih0 _ _ _ _
   | exact LeO.none _
   | refine LeO.ite ?_ ?_
   | refine LeO.bind ?_ (fun _ => ?_)
theorem spec_l03Without.mono : ∀ a0 a1 k, LeO (spec_l03Without.f k a0 a1) (spec_l03Without.f (k + 1) a0 a1) := by
 intro a0 a1 k
 have ih0 := spec_l03Without.mono_l k
 unfold spec_l03Without.f
 repeat' first
   | (with_reducible exact ih0 _ _ _ _)
   | (with_reducible exact LeO.refl _)
   | (with_reducible exact LeO.none _)
   | (with_reducible refine LeO.ite ?_ ?_)
   | (with_reducible refine LeO.bind ?_ (fun _ => ?_))
   | exact ih0 _ _ _ _
   | exact LeO.none _
   | refine LeO.ite ?_ ?_
   | refine LeO.bind ?_ (fun _ => ?_)
def spec_l03Without.T6 : Bool × List (List Nat × List Nat) := (true, [([], []), ([0], [0]), ([], []), ([2], [2]), ([], []), ([3, 4], [3, 4]), ([5], [5]), ([6], [6]), ([1, 7], [1, 7]), ([0, 1, 2, 3, 4, 5, 6, 7, 8], []), ([9, 8, 8, 0, 1, 2, 3, 4, 5, 6, 7, 8], [8, 9])])
def spec_l03Without.B6 : List Nat := [0, 1, 0, 4, 0, 28, 60, 124, 255, 511, 1023]
theorem spec_l03Without.tab6 : rtab .any (opsOf Try.f36 6) = spec_l03Without.T6 := by kernel_rfl
theorem spec_l03Without.bits6 : waitsOk spec_l03Without.T6.2 spec_l03Without.B6 = true := by kernel_rfl
set_option maxHeartbeats 8000000 in
set_option maxRecDepth 100000 in
theorem spec_l03Without.calls (k : Nat) (A0_0 : Option Addr) (c0_0 : Nat) (l0_0 : List (S66)) (a1 : ByteArray) (r : List (S66)) (w : World) (hr0_0 : Kd.C k66 w A0_0 l0_0.length l0_0) (hc0_0 : l0_0.length ≤ c0_0) (h : spec_l03Without.f k l0_0 a1 = some r) :
  Calls Try.prog 36 #[.agg #[.slice A0_0 l0_0.length c0_0], .string a1] w fun e w' => ∃ v0_ : Value, e = .returned (.agg #[v0_]) ∧ Kd.R k66 66 w' w.heap.size (fun _ => True) v0_ r ∧ Below w.heap.size w w' := by
 have hu31 := Try.underlying31
 have hu66 := Try.underlying66
 have HR0_0 := Aside0.mk hr0_0
 have HC0_0 := Aside0.mk hc0_0
 clear hr0_0 hc0_0
 have HB := Aside0.mk (Below.refl w.heap.size w)
 have H : (spec_l03Without.l0 k a1 0 l0_0 ([] : List (S66))) = some r := h
 clear h
 have H' := Aside0.mk H
 clear H
 go_enter Try.func36, Try.ntmps36
 go_wp2_with (first | ((with_reducible refine gate_dst (N := 2) rfl ?_); refine box_event rfl (N := 2) rfl (cs := #[.slice A0_0 l0_0.length c0_0]) (t := 31) zrun ?_; intro gb290 hg w3 hbox hb; have BK290 := am (hbox); have GE290 := zge hg (zb0 HB.out); replace HB := zs0 hb HB; clear hb hbox hg) | ((with_reducible refine gate_dst (N := 4) rfl ?_); refine box_event rfl (N := 4) rfl (cs := #[.slice none 0 0]) (t := 31) zrun ?_; intro gb291 hg w4 hbox hb; have BK291 := am (hbox); have GE291 := zge hg (zb1 HB.out GE290.out); obtain ⟨NB290_291, NB291_290⟩ := zne hg BK290; replace BK290 := zk hb BK290; replace HB := zs1 hb HB GE290; clear hb hbox hg) | ((with_reducible refine gate_dst (N := 5) rfl ?_); refine box_event rfl (N := 5) rfl (cs := #[.slice none 0 0]) (t := 31) zrun ?_; intro gb292 hg w5 hbox hb; have BK292 := am (hbox); have GE292 := zge hg (zb2 HB.out GE290.out GE291.out); obtain ⟨NB290_292, NB292_290⟩ := zne hg BK290; obtain ⟨NB291_292, NB292_291⟩ := zne hg BK291; replace BK290 := zk hb BK290; replace BK291 := zk hb BK291; replace HB := zs2 hb HB GE290 GE291; clear hb hbox hg; obtain ⟨hnb6, hnc6⟩ := zn2 NB292_290; obtain ⟨hnb7, hnc7⟩ := zn2 NB292_291; obtain ⟨hcz8_0, hfz8_0⟩ := zc1 BK292.out))
 go_loopg [6] k (fun kq v6 w' => ∃ (x6_1 : Int) (x293000_1 : List (S66)) (u293000 : Value), v6 = .int .i64 x6_1 ∧ Aside0 (spec_l03Without.l0 kq a1 x6_1 l0_0 x293000_1 = some r) ∧ Aside0 (kq ≤ k) ∧ Aside0 (Kd.R k66 66 w' w.heap.size (fun _ => True) u293000 x293000_1) ∧ Aside0 (w'.heap[gb290]? = some (.cells #[(.slice A0_0 l0_0.length c0_0)] 31 (0, 0))) ∧ Aside0 (w'.heap[gb291]? = some (.cells #[(.slice none 0 0)] 31 (0, 0))) ∧ Aside0 (w'.heap[gb292]? = some (.cells #[u293000] 31 (0, 0))) ∧ Aside0 (Below w.heap.size w w'))
 case atStart => exact ⟨(0), (([] : List (S66))), (.slice none 0 0), (by first | rfl | (simp; done) | (simp [*]; done)), H', ⟨Nat.le_refl _⟩, ⟨by first | exact Kd.R_nil _ _ _ _ _ | exact Kd.N_nil _ _ _ _ _ | exact Kd.V_nil _ _ _ _ _ | exact Kd.Q_nil _ _ _ _ _ | exact Kd.S_nil _ _ _ _ _⟩, ⟨zf1 BK290.out NB290_292.out⟩, ⟨zf1 BK291.out NB291_292.out⟩, ⟨by (with_reducible repeat (first | refine blk_drewN ?_ _ | refine blk_drew ?_ | refine blk_alloc ?_ _)); refine blk_put (cs := #[.slice none 0 0]) ?_ 0 _ rfl; (with_reducible repeat (first | refine blk_drewN ?_ _ | refine blk_drew ?_ | refine blk_alloc ?_ _)); exact BK292.out⟩, ⟨zb3 HB.out GE290.out GE291.out GE292.out⟩⟩
 case round =>
  clear H'
  obtain ⟨x6_1, x293000_1, u293000, rfl, HA, HK1, HO_293000, BK290, BK291, BK292, HB⟩ := hrel
  cases gk with
  | zero => exact absurd HA.out (by simp [spec_l03Without.l0])
  | succ k1 =>
   have H := HA.out
   clear HA
   simp only [spec_l03Without.l0] at H
   by_cases c9 : x6_1 < (l0_0.length : Int)
   ·rw [if_pos c9] at H
    have c9b0 : decide (x6_1 < (l0_0.length : Int)) = true := decide_eq_true c9
    have c9b1 : decide ((l0_0.length : Int) ≤ x6_1) = false := decide_eq_false (by omega)
    clear c9
    by_cases c10 : 0 ≤ x6_1
    ·rw [if_pos c10] at H
     have c10b0 : decide (0 ≤ x6_1) = true := decide_eq_true c10
     clear c10
     by_cases c11 : ((rd_T66 l0_0 x6_1).f0).toList = a1.toList
     ·rw [if_pos c11] at H
      have c11b0 : (((rd_T66 l0_0 x6_1).f0).toList == a1.toList) = true := beq_iff_eq.mpr c11
      have c11b1 : (((rd_T66 l0_0 x6_1).f0).toList != a1.toList) = false := bne_eq_false_iff_eq.mpr c11
      clear c11
      have H' := Aside0.mk H
      clear H
      obtain ⟨hnb12, hnc12⟩ := zn2 NB290_291
      obtain ⟨hnb13, hnc13⟩ := zn2 NB290_292
      obtain ⟨hcz14_0, hfz14_0⟩ := zc1 BK290.out
      have p293 : 0 ≤ (x6_1 : Int) := of_decide_eq_true (by first | (with_reducible assumption) | assumption)
      have q293 : x6_1 < (l0_0.length : Int) := of_decide_eq_true (by first | (with_reducible assumption) | assumption)
      obtain ⟨ad293, e293, hx293_0, hx293_1, hx293_2⟩ := at_T66 HR0_0.out x6_1 p293 q293
      cases e293
      replace hx293_0 := (HB.out.cell (World.block_lt_of_cell? w _ hx293_0)).trans hx293_0
      replace hx293_1 := (HB.out.cell (World.block_lt_of_cell? w _ hx293_1)).trans hx293_1
      replace hx293_2 := (HB.out.cell (World.block_lt_of_cell? w _ hx293_2)).trans hx293_2
      replace p293 := eq_true p293
      replace q293 := eq_true q293
      go_wp2
      go_roundg k1
      case measure => have := HK1.out; omega
      case rel => exact ⟨(wrap64 (x6_1 + 1)), (x293000_1), (u293000), (by first | rfl | (simp; done) | (simp [*]; done)), H', ⟨by have := HK1.out; omega⟩, ⟨rx HO_293000.out⟩, ⟨kx BK290.out⟩, ⟨kx BK291.out⟩, ⟨kx BK292.out⟩, ⟨zb3 HB.out GE290.out GE291.out GE292.out⟩⟩
     ·rw [if_neg c11] at H
      have c11b0 : (((rd_T66 l0_0 x6_1).f0).toList == a1.toList) = false := beq_eq_false_iff_ne.mpr c11
      have c11b1 : (((rd_T66 l0_0 x6_1).f0).toList != a1.toList) = true := bne_iff_ne.mpr c11
      by_cases c15 : x293000_1.length < 3518437208883
      ·rw [if_pos c15] at H
       have LMc15 := Aside0.mk c15
       clear c15
       obtain ⟨y295, hy295⟩ : ∃ y_ : List (S66), y_ = (x293000_1 ++ [(⟨(rd_T66 l0_0 x6_1).f0, (rd_T66 l0_0 x6_1).f1, (rd_T66 l0_0 x6_1).f2⟩ : S66)]) := ⟨_, rfl⟩
       replace H : (spec_l03Without.l0 k1 a1 (wrap64 (x6_1 + 1)) l0_0 y295) = some r := by first | (rw [hy295]; with_reducible exact H) | (have H2_ := (Option.bind_some _ _).symm.trans H; rw [hy295]; with_reducible exact H2_) | (have H2_ := (Option.bind_some _ _).symm.trans H; with_reducible exact H2_) | with_reducible exact H | (rw [hy295]; exact H) | exact H
       have Ny295 := Aside0.mk hy295
       clear hy295
       have H' := Aside0.mk H
       clear H
       obtain ⟨hnb16, hnc16⟩ := zn2 NB290_291
       obtain ⟨hnb17, hnc17⟩ := zn2 NB290_292
       obtain ⟨hcz18_0, hfz18_0⟩ := zc1 BK290.out
       have p293 : 0 ≤ (x6_1 : Int) := of_decide_eq_true (by first | (with_reducible assumption) | assumption)
       have q293 : x6_1 < (l0_0.length : Int) := of_decide_eq_true (by first | (with_reducible assumption) | assumption)
       obtain ⟨ad293, e293, hx293_0, hx293_1, hx293_2⟩ := at_T66 HR0_0.out x6_1 p293 q293
       cases e293
       replace hx293_0 := (HB.out.cell (World.block_lt_of_cell? w _ hx293_0)).trans hx293_0
       replace hx293_1 := (HB.out.cell (World.block_lt_of_cell? w _ hx293_1)).trans hx293_1
       replace hx293_2 := (HB.out.cell (World.block_lt_of_cell? w _ hx293_2)).trans hx293_2
       replace p293 := eq_true p293
       replace q293 := eq_true q293
       try go_wp2
       replace HO_293000 := am (Kd.R_drew HO_293000.out)
       replace BK290 := am (blk_drew BK290.out)
       replace BK291 := am (blk_drew BK291.out)
       replace BK292 := am (blk_drew BK292.out)
       replace HB := am (below_drew1 HB.out)
       have p294 : 0 ≤ (x6_1 : Int) := of_decide_eq_true (by first | (with_reducible assumption) | assumption)
       have q294 : x6_1 < (l0_0.length : Int) := of_decide_eq_true (by first | (with_reducible assumption) | assumption)
       obtain ⟨ad294, e294, hx294_0, hx294_1, hx294_2⟩ := at_T66 HR0_0.out x6_1 p294 q294
       have hw294_2 := hx294_2
       have hw294_1 := hx294_1
       have hw294_0 := hx294_0
       obtain rfl : ad293 = ad294 := (by injection e294)
       replace hx294_0 := (HB.out.cell (World.block_lt_of_cell? w _ hx294_0)).trans hx294_0
       replace hx294_1 := (HB.out.cell (World.block_lt_of_cell? w _ hx294_1)).trans hx294_1
       replace hx294_2 := (HB.out.cell (World.block_lt_of_cell? w _ hx294_2)).trans hx294_2
       replace p294 := eq_true p294
       replace q294 := eq_true q294
       refine start_ (n := 11) (S := fun w' => w'.cell? ⟨gb292, 0, none⟩ = some (u293000) ∧ w'.cell? ⟨gb290, 0, none⟩ = some (.slice (some ad293) l0_0.length c0_0) ∧ w'.cell? (ad293.add ((x6_1).toNat * 3)) = some (.string ((rd_T66 l0_0 x6_1).f0)) ∧ w'.cell? ⟨(ad293.add ((x6_1).toNat * 3)).block, (ad293.add ((x6_1).toNat * 3)).off + 1, none⟩ = some (.string ((rd_T66 l0_0 x6_1).f1)) ∧ w'.cell? ⟨(ad293.add ((x6_1).toNat * 3)).block, (ad293.add ((x6_1).toNat * 3)).off + 2, none⟩ = some (.int .i64 ((rd_T66 l0_0 x6_1).f2))) (ds := [10]) #[false, false, false, false, false, false, false, false, false, false, false] (by kernel_rfl) rfl rfl ⟨ct BK292.out 0, ct BK290.out 0, ((HB.out.cell (World.block_lt_of_cell? w _ hw294_0)).trans hw294_0), ((HB.out.cell (World.block_lt_of_cell? w _ hw294_1)).trans hw294_1), ((HB.out.cell (World.block_lt_of_cell? w _ hw294_2)).trans hw294_2)⟩ (fun hHeld => ?_); refine with_tabW spec_l03Without.tab6 spec_l03Without.bits6 (fun HT_ HW_ => ?_)
       generalize wr.drew = w19 at HO_293000 BK290 BK291 BK292 HB hx294_0 hx294_1 hx294_2 hHeld ⊢
       refine zpu 0 23 #[true, false, false, false, false, false, false, false, false, false, false] HT_ ?_
       refine zpu 2 25 #[true, false, true, false, false, false, false, false, false, false, false] HT_ ?_
       refine zpu 4 27 #[true, false, true, false, true, false, false, false, false, false, false] HT_ ?_
       refine ztk5 1 24 #[true, true, true, false, true, false, false, false, false, false, false] HT_ HW_ hHeld ?_
       refine ztk5 3 26 #[true, true, true, true, true, false, false, false, false, false, false] HT_ HW_ hHeld ?_
       refine zpu 5 28 #[true, true, true, true, true, true, false, false, false, false, false] HT_ ?_
       refine ztk5 6 29 #[true, true, true, true, true, true, true, false, false, false, false] HT_ HW_ hHeld ?_
       refine zon 7 #[true, true, true, true, true, true, true, true, false, false, false] HT_ (fun K hK => ?_)
       refine value_ (w1 := ?_) (v := ?_) (by rfl) rfl ?_ ?_
       rotate_left 2
       ·go_simp
        constructor
        ·rfl
        ·rfl
       refine hK.out _ _ ⟨(blk_cell (blk_alloc BK292.out _) 0).trans rfl, (blk_cell (blk_alloc BK290.out _) 0).trans rfl, (World.cell?_alloc_lt _ _ _ (World.block_lt_of_cell? _ _ (((HB.out.cell (World.block_lt_of_cell? w _ hw294_0)).trans hw294_0)))).trans (((HB.out.cell (World.block_lt_of_cell? w _ hw294_0)).trans hw294_0)), (World.cell?_alloc_lt _ _ _ (World.block_lt_of_cell? _ _ (((HB.out.cell (World.block_lt_of_cell? w _ hw294_1)).trans hw294_1)))).trans (((HB.out.cell (World.block_lt_of_cell? w _ hw294_1)).trans hw294_1)), (World.cell?_alloc_lt _ _ _ (World.block_lt_of_cell? _ _ (((HB.out.cell (World.block_lt_of_cell? w _ hw294_2)).trans hw294_2)))).trans (((HB.out.cell (World.block_lt_of_cell? w _ hw294_2)).trans hw294_2))⟩ (fun hHeld => ?_)
       clear hK K
       refine znm 30 ?_
       refine zon 8 #[true, true, true, true, true, true, true, true, true, false, false] HT_ (fun K hK => ?_)
       refine Kd.R_append_step k66 (w0 := w) w.heap.size (by rfl) (.tmp 24) (.tmp 30) 29 66 (.agg #[(.string ⟨#[]⟩), (.string ⟨#[]⟩), (.int .i64 0)]) 40 rfl Try.underlying29 info66 rfl (by decide) (by omega) u293000 x293000_1 (⟨(rd_T66 l0_0 x6_1).f0, (rd_T66 l0_0 x6_1).f1, (rd_T66 l0_0 x6_1).f2⟩ : S66) [.string ((rd_T66 l0_0 x6_1).f0), .string ((rd_T66 l0_0 x6_1).f1), .int .i64 ((rd_T66 l0_0 x6_1).f2)] (fun _ => True) (fun _ => False) rfl rfl ?aP (fun _ hk => hk.elim) ?aF ?aO ?aB ?aS ?aL ?_
       (case aP => exact k66_mkM _ _ _ (⟨(rd_T66 l0_0 x6_1).f0, (rd_T66 l0_0 x6_1).f1, (rd_T66 l0_0 x6_1).f2⟩ : S66))
       (case aB => exact (zb3 HB.out GE290.out GE291.out GE292.out))
       (case aF => exact (fun _ _ => trivial))
       (case aO => exact (rx HO_293000.out))
       (case aS => exact (below_size (zb3 HB.out GE290.out GE291.out GE292.out)))
       (case aL => have := LMc15.out; omega)
       intro v296 w20 ho hb hg hat
       rw [← Ny295.out] at ho
       have HO297 := am (ho)
       replace BK290 := am (blk_grown (g := gb290) (o := .cells #[.slice (some ad293) l0_0.length c0_0] 31 (0, 0)) (kx BK290.out) hg (Kd.R_ne HO_293000.out BK290.out (by decide)))
       replace BK291 := am (blk_grown (g := gb291) (o := .cells #[.slice none 0 0] 31 (0, 0)) (kx BK291.out) hg (Kd.R_ne HO_293000.out BK291.out (by decide)))
       replace BK292 := am (blk_grown (g := gb292) (o := .cells #[u293000] 31 (0, 0)) (kx BK292.out) hg (Kd.R_ne HO_293000.out BK292.out (by decide)))
       replace HB := am (hb)
       clear HO_293000 ho hb hg hat
       obtain ⟨Ao21, co21, eo21⟩ := Kd.R_slice HO297.out
       (first | subst eo21 | (injection eo21 with f1_ f2_ f3_; have f4_ := f1_.symm; have f5_ := f3_.symm; clear f1_ f2_ f3_; subst f4_; subst f5_))
       refine hK.out _ _ ⟨ct BK292.out 0, ct BK290.out 0, ((HB.out.cell (World.block_lt_of_cell? w _ hw294_0)).trans hw294_0), ((HB.out.cell (World.block_lt_of_cell? w _ hw294_1)).trans hw294_1), ((HB.out.cell (World.block_lt_of_cell? w _ hw294_2)).trans hw294_2)⟩ (fun hHeld => ?_)
       clear hK K
       refine znm 31 ?_
       refine zpu 9 32 #[true, true, true, true, true, true, true, true, true, true, false] HT_ ?_
       refine last_ (i := 10) (N := none) #[true, true, true, true, true, true, true, true, true, true, true] rfl rfl (one_of HT_.out (by kernel_rfl)) (by decide) (fun K hK => ?_)
       have hs22 : w20.cell? ⟨gb292, 0, none⟩ = some (u293000) := ct BK292.out 0
       have hfs22 := blk_frozen BK292.out 0
       have hns22_0 := NB290_292.out
       have hns22_1 := NB291_292.out
       have hms22_0 := NB292_290.out
       have hms22_1 := NB292_291.out
       refine skip_ (w1 := ?_) (by rfl) rfl ?_ ?_
       rotate_left
       ·go_simp
        rfl
       refine hK.out _ _ ?_
       clear hK K
       refine zdn HT_ ?_
       try go_wp2
       go_roundg k1
       case measure => have := HK1.out; omega
       case rel => exact ⟨(wrap64 (x6_1 + 1)), (y295), (.slice Ao21 y295.length co21), (by first | rfl | (simp; done) | (simp [*]; done)), H', ⟨by have := HK1.out; omega⟩, ⟨rx (Kd.R_mono (Kd.R_far (p := ⟨gb292, 0, none⟩) (Kd.R_types HO297.out BK292.out (by decide)) (fun _ hk => hk.2) (.slice Ao21 y295.length co21)) (fun _ hk => trivial))⟩, ⟨zf1 BK290.out NB290_292.out⟩, ⟨zf1 BK291.out NB291_292.out⟩, ⟨by (with_reducible repeat (first | refine blk_drewN ?_ _ | refine blk_drew ?_ | refine blk_alloc ?_ _)); refine blk_put (cs := #[u293000]) ?_ 0 _ rfl; (with_reducible repeat (first | refine blk_drewN ?_ _ | refine blk_drew ?_ | refine blk_alloc ?_ _)); exact BK292.out⟩, ⟨zb3 HB.out GE290.out GE291.out GE292.out⟩⟩
      ·rw [if_neg c15] at H
       exact absurd H (by simp)
    ·rw [if_neg c10] at H
     exact absurd H (by simp)
   ·rw [if_neg c9] at H
    have c9b0 : decide (x6_1 < (l0_0.length : Int)) = false := decide_eq_false c9
    have c9b1 : decide ((l0_0.length : Int) ≤ x6_1) = true := decide_eq_true (by omega)
    clear c9
    obtain rfl := Option.some.inj H
    obtain ⟨hnb23, hnc23⟩ := zn2 NB290_291
    obtain ⟨hnb24, hnc24⟩ := zn2 NB290_292
    obtain ⟨hcz25_0, hfz25_0⟩ := zc1 BK290.out
    obtain ⟨hnb26, hnc26⟩ := zn2 NB292_291
    obtain ⟨hcz27_0, hfz27_0⟩ := zc1 BK292.out
    obtain ⟨Ao28, co28, eo28⟩ := Kd.R_slice HO_293000.out
    subst eo28
    obtain ⟨hcz29_0, hfz29_0⟩ := zc1 BK291.out
    go_wp2
    refine bodyPost_ret (results_cell_row rfl _ _ gb291 31 #[.slice Ao28 x293000_1.length co28] (0, 0) _ rfl (by (with_reducible repeat (first | refine blk_drewN ?_ _ | refine blk_drew ?_ | refine blk_alloc ?_ _)); refine blk_put (cs := #[.slice none 0 0]) ?_ 0 _ rfl; (with_reducible repeat (first | refine blk_drewN ?_ _ | refine blk_drew ?_ | refine blk_alloc ?_ _)); exact BK291.out) Try.underlying31 rfl (by kernel_rfl)) rfl ?_
    exact ⟨_, by first | rfl | (simp [errW_none, errW_some] <;> rfl) | (simp [*, errW_none, errW_some] <;> rfl), rx (Kd.R_mono (Kd.R_far (p := ⟨gb291, 0, none⟩) (Kd.R_types HO_293000.out BK291.out (by decide)) (fun _ hk => hk.2) (.slice Ao28 x293000_1.length co28)) (fun _ hk => trivial)), zb3 HB.out GE290.out GE291.out GE292.out⟩

end Go.Proofs.Ytklbkkoojkmjbaa.QFnExactCutActs
