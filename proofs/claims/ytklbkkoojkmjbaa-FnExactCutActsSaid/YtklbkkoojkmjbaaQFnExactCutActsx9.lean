/- Written by the kit's print.py, called by our own print2.sh with one import more; not by print.sh. -/
import Derived.Test.YtklbkkoojkmjbaaQFnExactCutActsx0
import Derived.Test.YtklbkkoojkmjbaaQFnExactCutActsx5
import Derived.Test.YtklbkkoojkmjbaaQFnExactCutActsx8
namespace Go.Proofs.Ytklbkkoojkmjbaa.QFnExactCutActs
open Go.RowKit Go.Proofs.YtklbkkoojkmjbaaW.PrintWords Go.Proofs.YtklbkkoojkmjbaaW.PrintLast Go.Proofs.YtklbkkoojkmjbaaW.PrintMore
attribute [local go_sem] max2_int min2_int max_two min_two max_three min_three max_four min_four   -- for this text's walks alone
open Go.Proofs.Ytklbkkoojkmjbaa.Short
set_option linter.unusedVariables false
set_option linter.unusedSimpArgs false

/-! ### impl_DoActs: function 19 -/
def impl_DoActs.l0 : Nat → List (S35) → List (S35) → Int → Int → List (S66) → Option ((List (S66)) × Int)
 | 0, _, _, _, _, _ => none
 | k + 1, x1, x13, x14, x15, x235000 => if x15 < x14 then (if 0 ≤ x15 then (if x15 < (x13.length : Int) then ((impl_DoAct.f k x235000 ((rd_T35 x13 x15).f0) ((rd_T35 x13 x15).f1) ((rd_T35 x13 x15).f2) ((rd_T35 x13 x15).f3)).bind fun bt237 => (if bt237.2 = true then (impl_DoActs.l0 k x1 x13 x14 (wrap64 (x15 + 1)) bt237.1) else (some (x235000, x15)))) else (none)) else (none)) else (some (x235000, (x1.length : Int)))
def impl_DoActs.f (k : Nat) (l0_0 : List (S66)) (l1 : List (S35)) : Option ((List (S66)) × Int) := (impl_copyDisk.f l0_0).bind fun t231 => (impl_DoActs.l0 k l1 l1 (l1.length : Int) 0 t231)
theorem impl_DoActs.mono_l : ∀ k, (∀ y0 y1 y2 y3 y4, LeO (impl_DoActs.l0 k y0 y1 y2 y3 y4) (impl_DoActs.l0 (k + 1) y0 y1 y2 y3 y4))
 | 0 => fun _ _ _ _ _ r h => by simp [impl_DoActs.l0] at h
 | k + 1 => by
  have ih0 := impl_DoActs.mono_l k
  ·intro y0 y1 y2 y3 y4
   unfold impl_DoActs.l0
   repeat' first
   | (with_reducible exact ih0 _ _ _ _ _)
   | (with_reducible exact impl_DoAct.mono _ _ _ _ _ _)
   | (with_reducible exact LeO.refl _)
   | (with_reducible exact LeO.none _)
   | (with_reducible refine LeO.ite ?_ ?_)
   | (with_reducible refine LeO.bind ?_ (fun _ => ?_))
   | exact ih0 _ _ _ _ _
   | exact impl_DoAct.mono _ _ _ _ _ _
   | exact LeO.none _
   | refine LeO.ite ?_ ?_
   | refine LeO.bind ?_ (fun _ => ?_)
theorem impl_DoActs.mono : ∀ a0 a1 k, LeO (impl_DoActs.f k a0 a1) (impl_DoActs.f (k + 1) a0 a1) := by
 intro a0 a1 k
 have ih0 := impl_DoActs.mono_l k
 unfold impl_DoActs.f
 repeat' first
   | (with_reducible exact ih0 _ _ _ _ _)
   | (with_reducible exact impl_DoAct.mono _ _ _ _ _ _)
   | (with_reducible exact LeO.refl _)
   | (with_reducible exact LeO.none _)
   | (with_reducible refine LeO.ite ?_ ?_)
   | (with_reducible refine LeO.bind ?_ (fun _ => ?_))
   | exact ih0 _ _ _ _ _
   | exact impl_DoAct.mono _ _ _ _ _ _
   | exact LeO.none _
   | refine LeO.ite ?_ ?_
   | refine LeO.bind ?_ (fun _ => ?_)
set_option maxHeartbeats 8000000 in
set_option maxRecDepth 100000 in
theorem impl_DoActs.calls (k : Nat) (A0_0 : Option Addr) (c0_0 : Nat) (l0_0 : List (S66)) (A1 : Option Addr) (c1 : Nat) (l1 : List (S35)) (r1 : List (S66)) (r2 : Int) (w : World) (hr0_0 : Kd.C k66 w A0_0 l0_0.length l0_0) (hc0_0 : l0_0.length ≤ c0_0) (hr1 : Kd.C k35 w A1 l1.length l1) (hc1 : l1.length ≤ c1) (h : impl_DoActs.f k l0_0 l1 = some (r1, r2)) :
  Calls Try.prog 19 #[.agg #[.slice A0_0 l0_0.length c0_0], .slice A1 l1.length c1] w fun e w' => ∃ v0_ : Value, e = .returned (.tuple #[.agg #[v0_], .int .i64 r2]) ∧ Kd.R k66 66 w' w.heap.size (fun _ => True) v0_ r1 ∧ Below w.heap.size w w' := by
 have hu31 := Try.underlying31
 have hu35 := Try.underlying35
 have HR0_0 := Aside0.mk hr0_0
 have HC0_0 := Aside0.mk hc0_0
 clear hr0_0 hc0_0
 have HR1 := Aside0.mk hr1
 have HC1 := Aside0.mk hc1
 clear hr1 hc1
 have HB := Aside0.mk (Below.refl w.heap.size w)
 have H : ((impl_copyDisk.f l0_0).bind fun t231 => (impl_DoActs.l0 k l1 l1 (l1.length : Int) 0 t231)) = some (r1, r2) := h
 clear h
 replace H := Option.bind_eq_some_iff.mp H
 obtain ⟨t231, A30, H⟩ := H
 try dsimp only at H
 have A3 := Aside0.mk A30
 clear A30
 have H' := Aside0.mk H
 clear H
 go_enter Try.func19, Try.ntmps19
 go_wp2_with (first | ((with_reducible refine gate_dst (N := 2) rfl ?_); refine box_event rfl (N := 2) rfl (cs := #[.slice A0_0 l0_0.length c0_0]) (t := 31) zrun ?_; intro gb229 hg w4 hbox hb; have BK229 := am (hbox); have GE229 := zge hg (zb0 HB.out); replace HB := zs0 hb HB; clear hb hbox hg) | ((with_reducible refine gate_dst (N := 4) rfl ?_); refine box_event rfl (N := 4) rfl (cs := #[.slice none 0 0]) (t := 31) zrun ?_; intro gb230 hg w5 hbox hb; have BK230 := am (hbox); have GE230 := zge hg (zb1 HB.out GE229.out); obtain ⟨NB229_230, NB230_229⟩ := zne hg BK229; replace BK229 := zk hb BK229; replace HB := zs1 hb HB GE229; clear hb hbox hg; obtain ⟨hnb6, hnc6⟩ := zn2 NB229_230; obtain ⟨hcz7_0, hfz7_0⟩ := zc1 BK229.out) | ((with_reducible refine gate_callee (f := 46) rfl ?_); refine goesL_ (some 12) rfl rfl Try.func46 (by kernel_rfl) rfl #[.agg #[.slice A0_0 l0_0.length c0_0]] rfl zr ?_; (with_reducible refine (impl_copyDisk.calls _ _ l0_0 t231 _ ?side1 ?side2 A3.out).mono ?_); (case side1 => repeat (first | exact (Kd.C_below HR0_0.out HB.out) | (with_reducible refine Kd.C_alloc ?_ _) | (with_reducible refine Kd.C_drewN ?_ _) | (with_reducible refine Kd.C_drew ?_))); (case side2 => exact HC0_0.out); rintro e w8 ⟨v232, rfl, ho0, hb⟩; refine ⟨_, rfl, ?_⟩; have HO233 := am (Kd.R_lower ho0 (below_size (zb2 HB.out GE229.out GE230.out))); replace BK229 := zk hb BK229; replace BK230 := zk hb BK230; replace HB := zs2 hb HB GE229 GE230; clear hb ho0) | ((with_reducible refine gate_dst (N := 6) rfl ?_); refine box_event rfl (N := 6) rfl (cs := #[.slice none 0 0]) (t := 31) zrun ?_; intro gb234 hg w9 hbox hb; have BK234 := am (hbox); have GE234 := zge hg (zb2 HB.out GE229.out GE230.out); obtain ⟨NB229_234, NB234_229⟩ := zne hg BK229; obtain ⟨NB230_234, NB234_230⟩ := zne hg BK230; replace HO233 := am (Kd.R_below (rx HO233.out) hb); replace BK229 := zk hb BK229; replace BK230 := zk hb BK230; replace HB := zs2 hb HB GE229 GE230; clear hb hbox hg; obtain ⟨Ao10, co10, eo10⟩ := Kd.R_slice HO233.out; subst eo10; obtain ⟨hnb11, hnc11⟩ := zn2 NB234_229; obtain ⟨hnb12, hnc12⟩ := zn2 NB234_230; obtain ⟨hcz13_0, hfz13_0⟩ := zc1 BK234.out))
 go_loopg [15] k (fun kq v15 w' => ∃ (x15_1 : Int) (x235000_1 : List (S66)) (u235000 : Value), v15 = .int .i64 x15_1 ∧ Aside0 (impl_DoActs.l0 kq l1 l1 (l1.length : Int) x15_1 x235000_1 = some (r1, r2)) ∧ Aside0 (kq ≤ k) ∧ Aside0 (Kd.R k66 66 w' w.heap.size (fun _ => True) u235000 x235000_1) ∧ Aside0 (w'.heap[gb229]? = some (.cells #[(.slice A0_0 l0_0.length c0_0)] 31 (0, 0))) ∧ Aside0 (w'.heap[gb230]? = some (.cells #[(.slice none 0 0)] 31 (0, 0))) ∧ Aside0 (w'.heap[gb234]? = some (.cells #[u235000] 31 (0, 0))) ∧ Aside0 (Below w.heap.size w w'))
 case atStart => exact ⟨(0), (t231), (.slice Ao10 t231.length co10), (by first | rfl | (simp; done) | (simp [*]; done)), H', ⟨Nat.le_refl _⟩, ⟨rx (Kd.R_mono (Kd.R_far (p := ⟨gb234, 0, none⟩) (Kd.R_types HO233.out BK234.out (by decide)) (fun _ hk => hk.2) (.slice Ao10 t231.length co10)) (fun _ hk => trivial))⟩, ⟨zf1 BK229.out NB229_234.out⟩, ⟨zf1 BK230.out NB230_234.out⟩, ⟨by (with_reducible repeat (first | refine blk_drewN ?_ _ | refine blk_drew ?_ | refine blk_alloc ?_ _)); refine blk_put (cs := #[.slice none 0 0]) ?_ 0 _ rfl; (with_reducible repeat (first | refine blk_drewN ?_ _ | refine blk_drew ?_ | refine blk_alloc ?_ _)); exact BK234.out⟩, ⟨zb3 HB.out GE229.out GE230.out GE234.out⟩⟩
 case round =>
  clear H'
  obtain ⟨x15_1, x235000_1, u235000, rfl, HA, HK1, HO_235000, BK229, BK230, BK234, HB⟩ := hrel
  cases gk with
  | zero => exact absurd HA.out (by simp [impl_DoActs.l0])
  | succ k1 =>
   have H := HA.out
   clear HA
   simp only [impl_DoActs.l0] at H
   by_cases c14 : x15_1 < (l1.length : Int)
   ·rw [if_pos c14] at H
    have c14b0 : decide (x15_1 < (l1.length : Int)) = true := decide_eq_true c14
    have c14b1 : decide ((l1.length : Int) ≤ x15_1) = false := decide_eq_false (by omega)
    clear c14
    by_cases c15 : 0 ≤ x15_1
    ·rw [if_pos c15] at H
     have c15b0 : decide (0 ≤ x15_1) = true := decide_eq_true c15
     clear c15
     by_cases c16 : x15_1 < (l1.length : Int)
     ·rw [if_pos c16] at H
      have c16b0 : decide (x15_1 < (l1.length : Int)) = true := decide_eq_true c16
      have c16b1 : decide ((l1.length : Int) ≤ x15_1) = false := decide_eq_false (by omega)
      clear c16
      replace H := Option.bind_eq_some_iff.mp H
      obtain ⟨⟨t237, t240⟩, A170, H⟩ := H
      try dsimp only at H
      have A17 := Aside0.mk A170
      clear A170
      by_cases c18 : t240 = true
      ·subst c18
       have H1 : (impl_DoActs.l0 k1 l1 l1 (l1.length : Int) (wrap64 (x15_1 + 1)) t237) = some (r1, r2) := by rw [if_pos rfl] at H; exact H
       clear H
       have H := H1
       clear H1
       have H' := Aside0.mk H
       clear H
       have p235 : 0 ≤ (x15_1 : Int) := of_decide_eq_true (by first | (with_reducible assumption) | assumption)
       have q235 : x15_1 < (l1.length : Int) := of_decide_eq_true (by first | (with_reducible assumption) | assumption)
       obtain ⟨ad235, e235, hx235_0, hx235_1, hx235_2, hx235_3⟩ := at_T35 HR1.out x15_1 p235 q235
       cases e235
       replace hx235_0 := (HB.out.cell (World.block_lt_of_cell? w _ hx235_0)).trans hx235_0
       replace hx235_1 := (HB.out.cell (World.block_lt_of_cell? w _ hx235_1)).trans hx235_1
       replace hx235_2 := (HB.out.cell (World.block_lt_of_cell? w _ hx235_2)).trans hx235_2
       replace hx235_3 := (HB.out.cell (World.block_lt_of_cell? w _ hx235_3)).trans hx235_3
       replace p235 := eq_true p235
       replace q235 := eq_true q235
       go_wp2_with (first | ((with_reducible refine gate_dst (N := 8) rfl ?_); refine box_event rfl (N := 8) rfl (cs := #[.int .i64 0, .string (⟨#[]⟩ : ByteArray), .string (⟨#[]⟩ : ByteArray), .string (⟨#[]⟩ : ByteArray)]) (t := 35) zrun ?_; intro gb236 hg w19 hbox hb; have BK236 := am (hbox); have GW236 := zge hg (zb3 HB.out GE229.out GE230.out GE234.out); have GE236 := zge hg (zb3 HB.out GE229.out GE230.out GE234.out); obtain ⟨NB229_236, NB236_229⟩ := zne hg BK229; obtain ⟨NB230_236, NB236_230⟩ := zne hg BK230; obtain ⟨NB234_236, NB236_234⟩ := zne hg BK234; replace HO_235000 := am (Kd.R_below (rx HO_235000.out) hb); replace BK229 := zk hb BK229; replace BK230 := zk hb BK230; replace BK234 := zk hb BK234; replace HB := zs3 hb HB GE229 GE230 GE234; clear hb hbox hg; obtain ⟨hnb20, hnc20⟩ := zn2 NB236_229; obtain ⟨hnb21, hnc21⟩ := zn2 NB236_230; obtain ⟨hnb22, hnc22⟩ := zn2 NB236_234; obtain ⟨hcz23_0, hcz23_1, hcz23_2, hcz23_3, hfz23_0, hfz23_1, hfz23_2, hfz23_3⟩ := zc4 BK236.out; obtain ⟨hnb24, hnc24⟩ := zn2 NB234_229; obtain ⟨hnb25, hnc25⟩ := zn2 NB234_230; obtain ⟨hcz26_0, hfz26_0⟩ := zc1 BK234.out; obtain ⟨Ao27, co27, eo27⟩ := Kd.R_slice HO_235000.out; subst eo27) | ((with_reducible refine gate_callee (f := 12) rfl ?_); refine goesL_ (some 23) rfl rfl Try.func12 (by kernel_rfl) rfl #[.agg #[.slice Ao27 x235000_1.length co27], .agg #[.int .i64 ((rd_T35 l1 x15_1).f0), .string ((rd_T35 l1 x15_1).f1), .string ((rd_T35 l1 x15_1).f2), .string ((rd_T35 l1 x15_1).f3)]] rfl zr ?_; (with_reducible refine (impl_DoAct.calls k1 _ _ x235000_1 ((rd_T35 l1 x15_1).f0) ((rd_T35 l1 x15_1).f1) ((rd_T35 l1 x15_1).f2) ((rd_T35 l1 x15_1).f3) t237 true _ ?side1 ?side2 A17.out).mono ?_); (case side1 => refine (Kd.R_reads' (e := 66) (base := w.heap.size) (ok := fun k_ => True) (n := x235000_1.length) (c := co27) ?_).2.2; exact (rx ((Kd.R_mono (Kd.R_far (p := ⟨gb236, 3, none⟩) (Kd.R_far (p := ⟨gb236, 2, none⟩) (Kd.R_far (p := ⟨gb236, 1, none⟩) (Kd.R_far (p := ⟨gb236, 0, none⟩) (Kd.R_types HO_235000.out BK236.out (by decide)) (fun _ hk => hk.2) (.int .i64 ((rd_T35 l1 x15_1).f0))) (fun _ hk => hk.2) (.string ((rd_T35 l1 x15_1).f1))) (fun _ hk => hk.2) (.string ((rd_T35 l1 x15_1).f2))) (fun _ hk => hk.2) (.string ((rd_T35 l1 x15_1).f3))) (fun _ h_ => h_.1))))); (case side2 => exact (Kd.R_reads' HO_235000.out).2.1); rintro e w28 ⟨v238, rfl, ho0, hb⟩; refine ⟨_, rfl, ?_⟩; have HO239 := am (Kd.R_lower (Kd.R_new' ho0 (Kd.R_lt (rx ((Kd.R_mono (Kd.R_far (p := ⟨gb236, 3, none⟩) (Kd.R_far (p := ⟨gb236, 2, none⟩) (Kd.R_far (p := ⟨gb236, 1, none⟩) (Kd.R_far (p := ⟨gb236, 0, none⟩) (Kd.R_types HO_235000.out BK236.out (by decide)) (fun _ hk => hk.2) (.int .i64 ((rd_T35 l1 x15_1).f0))) (fun _ hk => hk.2) (.string ((rd_T35 l1 x15_1).f1))) (fun _ hk => hk.2) (.string ((rd_T35 l1 x15_1).f2))) (fun _ hk => hk.2) (.string ((rd_T35 l1 x15_1).f3))) (fun _ h_ => h_.1)))))) (below_size (zb4 HB.out GE229.out GE230.out GE234.out GE236.out))); replace HO_235000 := am (Kd.R_elder' (rx ((Kd.R_mono (Kd.R_far (p := ⟨gb236, 3, none⟩) (Kd.R_far (p := ⟨gb236, 2, none⟩) (Kd.R_far (p := ⟨gb236, 1, none⟩) (Kd.R_far (p := ⟨gb236, 0, none⟩) (Kd.R_types HO_235000.out BK236.out (by decide)) (fun _ hk => hk.2) (.int .i64 ((rd_T35 l1 x15_1).f0))) (fun _ hk => hk.2) (.string ((rd_T35 l1 x15_1).f1))) (fun _ hk => hk.2) (.string ((rd_T35 l1 x15_1).f2))) (fun _ hk => hk.2) (.string ((rd_T35 l1 x15_1).f3))) (fun _ h_ => h_.1)))) (Kd.R_base ho0) hb); replace BK229 := zh1 hb BK229 NB229_236; replace BK230 := zh1 hb BK230 NB230_236; replace BK234 := zh1 hb BK234 NB234_236; replace BK236 := am (blk_below (g := gb236) (o := .cells #[.int .i64 ((rd_T35 l1 x15_1).f0), .string ((rd_T35 l1 x15_1).f1), .string ((rd_T35 l1 x15_1).f2), .string ((rd_T35 l1 x15_1).f3)] 35 (0, 0)) (by (with_reducible repeat (first | refine blk_drewN ?_ _ | refine blk_drew ?_ | refine blk_alloc ?_ _)); refine blk_put (cs := #[.int .i64 ((rd_T35 l1 x15_1).f0), .string ((rd_T35 l1 x15_1).f1), .string ((rd_T35 l1 x15_1).f2), .string (⟨#[]⟩ : ByteArray)]) ?_ 3 _ rfl; (with_reducible repeat (first | refine blk_drewN ?_ _ | refine blk_drew ?_ | refine blk_alloc ?_ _)); refine blk_put (cs := #[.int .i64 ((rd_T35 l1 x15_1).f0), .string ((rd_T35 l1 x15_1).f1), .string (⟨#[]⟩ : ByteArray), .string (⟨#[]⟩ : ByteArray)]) ?_ 2 _ rfl; (with_reducible repeat (first | refine blk_drewN ?_ _ | refine blk_drew ?_ | refine blk_alloc ?_ _)); refine blk_put (cs := #[.int .i64 ((rd_T35 l1 x15_1).f0), .string (⟨#[]⟩ : ByteArray), .string (⟨#[]⟩ : ByteArray), .string (⟨#[]⟩ : ByteArray)]) ?_ 1 _ rfl; (with_reducible repeat (first | refine blk_drewN ?_ _ | refine blk_drew ?_ | refine blk_alloc ?_ _)); refine blk_put (cs := #[.int .i64 0, .string (⟨#[]⟩ : ByteArray), .string (⟨#[]⟩ : ByteArray), .string (⟨#[]⟩ : ByteArray)]) ?_ 0 _ rfl; (with_reducible repeat (first | refine blk_drewN ?_ _ | refine blk_drew ?_ | refine blk_alloc ?_ _)); exact BK236.out) hb); replace HB := zs4 hb HB GE229 GE230 GE234 GE236; clear hb ho0) | ((with_reducible refine gate_dst (N := 9) rfl ?_); refine box_event rfl (N := 9) rfl (cs := #[.slice none 0 0]) (t := 31) zrun ?_; intro gb241 hg w29 hbox hb; have BK241 := am (hbox); have GW241 := zge hg (zb4 HB.out GE229.out GE230.out GE234.out GE236.out); have GE241 := zge hg (zb4 HB.out GE229.out GE230.out GE234.out GE236.out); obtain ⟨NB229_241, NB241_229⟩ := zne hg BK229; obtain ⟨NB230_241, NB241_230⟩ := zne hg BK230; obtain ⟨NB234_241, NB241_234⟩ := zne hg BK234; obtain ⟨NB236_241, NB241_236⟩ := zne hg BK236; replace HO_235000 := am (Kd.R_below (rx HO_235000.out) hb); replace HO239 := am (Kd.R_below (rx HO239.out) hb); replace BK229 := zk hb BK229; replace BK230 := zk hb BK230; replace BK234 := zk hb BK234; replace BK236 := zk hb BK236; replace HB := zs4 hb HB GE229 GE230 GE234 GE236; clear hb hbox hg; obtain ⟨Ao30, co30, eo30⟩ := Kd.R_slice HO239.out; subst eo30; obtain ⟨hnb31, hnc31⟩ := zn2 NB241_229; obtain ⟨hnb32, hnc32⟩ := zn2 NB241_230; obtain ⟨hnb33, hnc33⟩ := zn2 NB241_234; obtain ⟨hnb34, hnc34⟩ := zn2 NB241_236; obtain ⟨hcz35_0, hfz35_0⟩ := zc1 BK241.out; obtain ⟨hcz36_0, hfz36_0⟩ := zc1 BK234.out))
       go_roundg k1
       case measure => have := HK1.out; omega
       case rel => exact ⟨(wrap64 (x15_1 + 1)), (t237), (.slice Ao30 t237.length co30), (by first | rfl | (simp; done) | (simp [*]; done)), H', ⟨by have := HK1.out; omega⟩, ⟨rx (Kd.R_mono (Kd.R_far (p := ⟨gb234, 0, none⟩) (Kd.R_far (p := ⟨gb241, 0, none⟩) (Kd.R_types (Kd.R_types HO239.out BK241.out (by decide)) BK234.out (by decide)) (fun _ hk => hk.1.2) (.slice Ao30 t237.length co30)) (fun _ hk => hk.2) (.slice Ao30 t237.length co30)) (fun _ hk => trivial))⟩, ⟨zf2 BK229.out NB229_234.out NB229_241.out⟩, ⟨zf2 BK230.out NB230_234.out NB230_241.out⟩, ⟨by (with_reducible repeat (first | refine blk_drewN ?_ _ | refine blk_drew ?_ | refine blk_alloc ?_ _)); refine blk_put (cs := #[.slice Ao27 x235000_1.length co27]) ?_ 0 _ rfl; (with_reducible repeat (first | refine blk_drewN ?_ _ | refine blk_drew ?_ | refine blk_alloc ?_ _)); refine blk_far ?_ NB234_241.out _; (with_reducible repeat (first | refine blk_drewN ?_ _ | refine blk_drew ?_ | refine blk_alloc ?_ _)); exact BK234.out⟩, ⟨zb5 HB.out GE229.out GE230.out GE234.out GE236.out GE241.out⟩⟩
      ·replace c18 := Bool.eq_false_iff.mpr c18
       subst c18
       have H1 : (some (x235000_1, x15_1)) = some (r1, r2) := by rw [if_neg (show ¬ (false = true) by decide)] at H; exact H
       clear H
       have H := H1
       clear H1
       simp only [Option.some.injEq, Prod.mk.injEq] at H
       obtain ⟨rfl, rfl⟩ := H
       have p235 : 0 ≤ (x15_1 : Int) := of_decide_eq_true (by first | (with_reducible assumption) | assumption)
       have q235 : x15_1 < (l1.length : Int) := of_decide_eq_true (by first | (with_reducible assumption) | assumption)
       obtain ⟨ad235, e235, hx235_0, hx235_1, hx235_2, hx235_3⟩ := at_T35 HR1.out x15_1 p235 q235
       cases e235
       replace hx235_0 := (HB.out.cell (World.block_lt_of_cell? w _ hx235_0)).trans hx235_0
       replace hx235_1 := (HB.out.cell (World.block_lt_of_cell? w _ hx235_1)).trans hx235_1
       replace hx235_2 := (HB.out.cell (World.block_lt_of_cell? w _ hx235_2)).trans hx235_2
       replace hx235_3 := (HB.out.cell (World.block_lt_of_cell? w _ hx235_3)).trans hx235_3
       replace p235 := eq_true p235
       replace q235 := eq_true q235
       go_wp2_with (first | ((with_reducible refine gate_dst (N := 8) rfl ?_); refine box_event rfl (N := 8) rfl (cs := #[.int .i64 0, .string (⟨#[]⟩ : ByteArray), .string (⟨#[]⟩ : ByteArray), .string (⟨#[]⟩ : ByteArray)]) (t := 35) zrun ?_; intro gb236 hg w37 hbox hb; have BK236 := am (hbox); have GW236 := zge hg (zb3 HB.out GE229.out GE230.out GE234.out); have GE236 := zge hg (zb3 HB.out GE229.out GE230.out GE234.out); obtain ⟨NB229_236, NB236_229⟩ := zne hg BK229; obtain ⟨NB230_236, NB236_230⟩ := zne hg BK230; obtain ⟨NB234_236, NB236_234⟩ := zne hg BK234; replace HO_235000 := am (Kd.R_below (rx HO_235000.out) hb); replace BK229 := zk hb BK229; replace BK230 := zk hb BK230; replace BK234 := zk hb BK234; replace HB := zs3 hb HB GE229 GE230 GE234; clear hb hbox hg; obtain ⟨hnb38, hnc38⟩ := zn2 NB236_229; obtain ⟨hnb39, hnc39⟩ := zn2 NB236_230; obtain ⟨hnb40, hnc40⟩ := zn2 NB236_234; obtain ⟨hcz41_0, hcz41_1, hcz41_2, hcz41_3, hfz41_0, hfz41_1, hfz41_2, hfz41_3⟩ := zc4 BK236.out; obtain ⟨hnb42, hnc42⟩ := zn2 NB234_229; obtain ⟨hnb43, hnc43⟩ := zn2 NB234_230; obtain ⟨hcz44_0, hfz44_0⟩ := zc1 BK234.out; obtain ⟨Ao45, co45, eo45⟩ := Kd.R_slice HO_235000.out; subst eo45) | ((with_reducible refine gate_callee (f := 12) rfl ?_); refine goesL_ (some 23) rfl rfl Try.func12 (by kernel_rfl) rfl #[.agg #[.slice Ao45 x235000_1.length co45], .agg #[.int .i64 ((rd_T35 l1 x15_1).f0), .string ((rd_T35 l1 x15_1).f1), .string ((rd_T35 l1 x15_1).f2), .string ((rd_T35 l1 x15_1).f3)]] rfl zr ?_; (with_reducible refine (impl_DoAct.calls k1 _ _ x235000_1 ((rd_T35 l1 x15_1).f0) ((rd_T35 l1 x15_1).f1) ((rd_T35 l1 x15_1).f2) ((rd_T35 l1 x15_1).f3) t237 false _ ?side1 ?side2 A17.out).mono ?_); (case side1 => refine (Kd.R_reads' (e := 66) (base := w.heap.size) (ok := fun k_ => True) (n := x235000_1.length) (c := co45) ?_).2.2; exact (rx ((Kd.R_mono (Kd.R_far (p := ⟨gb236, 3, none⟩) (Kd.R_far (p := ⟨gb236, 2, none⟩) (Kd.R_far (p := ⟨gb236, 1, none⟩) (Kd.R_far (p := ⟨gb236, 0, none⟩) (Kd.R_types HO_235000.out BK236.out (by decide)) (fun _ hk => hk.2) (.int .i64 ((rd_T35 l1 x15_1).f0))) (fun _ hk => hk.2) (.string ((rd_T35 l1 x15_1).f1))) (fun _ hk => hk.2) (.string ((rd_T35 l1 x15_1).f2))) (fun _ hk => hk.2) (.string ((rd_T35 l1 x15_1).f3))) (fun _ h_ => h_.1))))); (case side2 => exact (Kd.R_reads' HO_235000.out).2.1); rintro e w46 ⟨v238, rfl, ho0, hb⟩; refine ⟨_, rfl, ?_⟩; have HO239 := am (Kd.R_lower (Kd.R_new' ho0 (Kd.R_lt (rx ((Kd.R_mono (Kd.R_far (p := ⟨gb236, 3, none⟩) (Kd.R_far (p := ⟨gb236, 2, none⟩) (Kd.R_far (p := ⟨gb236, 1, none⟩) (Kd.R_far (p := ⟨gb236, 0, none⟩) (Kd.R_types HO_235000.out BK236.out (by decide)) (fun _ hk => hk.2) (.int .i64 ((rd_T35 l1 x15_1).f0))) (fun _ hk => hk.2) (.string ((rd_T35 l1 x15_1).f1))) (fun _ hk => hk.2) (.string ((rd_T35 l1 x15_1).f2))) (fun _ hk => hk.2) (.string ((rd_T35 l1 x15_1).f3))) (fun _ h_ => h_.1)))))) (below_size (zb4 HB.out GE229.out GE230.out GE234.out GE236.out))); replace HO_235000 := am (Kd.R_elder' (rx ((Kd.R_mono (Kd.R_far (p := ⟨gb236, 3, none⟩) (Kd.R_far (p := ⟨gb236, 2, none⟩) (Kd.R_far (p := ⟨gb236, 1, none⟩) (Kd.R_far (p := ⟨gb236, 0, none⟩) (Kd.R_types HO_235000.out BK236.out (by decide)) (fun _ hk => hk.2) (.int .i64 ((rd_T35 l1 x15_1).f0))) (fun _ hk => hk.2) (.string ((rd_T35 l1 x15_1).f1))) (fun _ hk => hk.2) (.string ((rd_T35 l1 x15_1).f2))) (fun _ hk => hk.2) (.string ((rd_T35 l1 x15_1).f3))) (fun _ h_ => h_.1)))) (Kd.R_base ho0) hb); replace BK229 := zh1 hb BK229 NB229_236; replace BK230 := zh1 hb BK230 NB230_236; replace BK234 := zh1 hb BK234 NB234_236; replace BK236 := am (blk_below (g := gb236) (o := .cells #[.int .i64 ((rd_T35 l1 x15_1).f0), .string ((rd_T35 l1 x15_1).f1), .string ((rd_T35 l1 x15_1).f2), .string ((rd_T35 l1 x15_1).f3)] 35 (0, 0)) (by (with_reducible repeat (first | refine blk_drewN ?_ _ | refine blk_drew ?_ | refine blk_alloc ?_ _)); refine blk_put (cs := #[.int .i64 ((rd_T35 l1 x15_1).f0), .string ((rd_T35 l1 x15_1).f1), .string ((rd_T35 l1 x15_1).f2), .string (⟨#[]⟩ : ByteArray)]) ?_ 3 _ rfl; (with_reducible repeat (first | refine blk_drewN ?_ _ | refine blk_drew ?_ | refine blk_alloc ?_ _)); refine blk_put (cs := #[.int .i64 ((rd_T35 l1 x15_1).f0), .string ((rd_T35 l1 x15_1).f1), .string (⟨#[]⟩ : ByteArray), .string (⟨#[]⟩ : ByteArray)]) ?_ 2 _ rfl; (with_reducible repeat (first | refine blk_drewN ?_ _ | refine blk_drew ?_ | refine blk_alloc ?_ _)); refine blk_put (cs := #[.int .i64 ((rd_T35 l1 x15_1).f0), .string (⟨#[]⟩ : ByteArray), .string (⟨#[]⟩ : ByteArray), .string (⟨#[]⟩ : ByteArray)]) ?_ 1 _ rfl; (with_reducible repeat (first | refine blk_drewN ?_ _ | refine blk_drew ?_ | refine blk_alloc ?_ _)); refine blk_put (cs := #[.int .i64 0, .string (⟨#[]⟩ : ByteArray), .string (⟨#[]⟩ : ByteArray), .string (⟨#[]⟩ : ByteArray)]) ?_ 0 _ rfl; (with_reducible repeat (first | refine blk_drewN ?_ _ | refine blk_drew ?_ | refine blk_alloc ?_ _)); exact BK236.out) hb); replace HB := zs4 hb HB GE229 GE230 GE234 GE236; clear hb ho0) | ((with_reducible refine gate_dst (N := 9) rfl ?_); refine box_event rfl (N := 9) rfl (cs := #[.slice none 0 0]) (t := 31) zrun ?_; intro gb241 hg w47 hbox hb; have BK241 := am (hbox); have GW241 := zge hg (zb4 HB.out GE229.out GE230.out GE234.out GE236.out); have GE241 := zge hg (zb4 HB.out GE229.out GE230.out GE234.out GE236.out); obtain ⟨NB229_241, NB241_229⟩ := zne hg BK229; obtain ⟨NB230_241, NB241_230⟩ := zne hg BK230; obtain ⟨NB234_241, NB241_234⟩ := zne hg BK234; obtain ⟨NB236_241, NB241_236⟩ := zne hg BK236; replace HO_235000 := am (Kd.R_below (rx HO_235000.out) hb); replace HO239 := am (Kd.R_below (rx HO239.out) hb); replace BK229 := zk hb BK229; replace BK230 := zk hb BK230; replace BK234 := zk hb BK234; replace BK236 := zk hb BK236; replace HB := zs4 hb HB GE229 GE230 GE234 GE236; clear hb hbox hg; obtain ⟨Ao48, co48, eo48⟩ := Kd.R_slice HO239.out; subst eo48; obtain ⟨hnb49, hnc49⟩ := zn2 NB241_229; obtain ⟨hnb50, hnc50⟩ := zn2 NB241_230; obtain ⟨hnb51, hnc51⟩ := zn2 NB241_234; obtain ⟨hnb52, hnc52⟩ := zn2 NB241_236; obtain ⟨hcz53_0, hfz53_0⟩ := zc1 BK241.out; obtain ⟨hcz54_0, hfz54_0⟩ := zc1 BK234.out; obtain ⟨hnb55, hnc55⟩ := zn2 NB230_229; obtain ⟨hcz56_0, hfz56_0⟩ := zc1 BK230.out))
       refine bodyPost_ret (results_ct rfl _ _ gb230 31 #[.slice Ao45 x235000_1.length co45] (0, 0) _ rfl (by (with_reducible repeat (first | refine blk_drewN ?_ _ | refine blk_drew ?_ | refine blk_alloc ?_ _)); refine blk_put (cs := #[.slice none 0 0]) ?_ 0 _ rfl; (with_reducible repeat (first | refine blk_drewN ?_ _ | refine blk_drew ?_ | refine blk_alloc ?_ _)); refine blk_far ?_ NB230_241.out _; (with_reducible repeat (first | refine blk_drewN ?_ _ | refine blk_drew ?_ | refine blk_alloc ?_ _)); exact BK230.out) Try.underlying31 rfl (by kernel_rfl)) rfl ?_
       exact ⟨_, by first | rfl | (simp [errW_none, errW_some] <;> rfl) | (simp [*, errW_none, errW_some] <;> rfl), rx (Kd.R_mono (Kd.R_far (p := ⟨gb230, 0, none⟩) (Kd.R_far (p := ⟨gb241, 0, none⟩) (Kd.R_types (Kd.R_types HO_235000.out BK241.out (by decide)) BK230.out (by decide)) (fun _ hk => hk.1.2) (.slice Ao48 t237.length co48)) (fun _ hk => hk.2) (.slice Ao45 x235000_1.length co45)) (fun _ hk => trivial)), zb5 HB.out GE229.out GE230.out GE234.out GE236.out GE241.out⟩
     ·rw [if_neg c16] at H
      exact absurd H (by simp)
    ·rw [if_neg c15] at H
     exact absurd H (by simp)
   ·rw [if_neg c14] at H
    have c14b0 : decide (x15_1 < (l1.length : Int)) = false := decide_eq_false c14
    have c14b1 : decide ((l1.length : Int) ≤ x15_1) = true := decide_eq_true (by omega)
    clear c14
    simp only [Option.some.injEq, Prod.mk.injEq] at H
    obtain ⟨rfl, rfl⟩ := H
    obtain ⟨hnb57, hnc57⟩ := zn2 NB234_229
    obtain ⟨hnb58, hnc58⟩ := zn2 NB234_230
    obtain ⟨hcz59_0, hfz59_0⟩ := zc1 BK234.out
    obtain ⟨Ao60, co60, eo60⟩ := Kd.R_slice HO_235000.out
    subst eo60
    obtain ⟨hnb61, hnc61⟩ := zn2 NB230_229
    obtain ⟨hcz62_0, hfz62_0⟩ := zc1 BK230.out
    go_wp2
    refine bodyPost_ret (results_ct rfl _ _ gb230 31 #[.slice Ao60 x235000_1.length co60] (0, 0) _ rfl (by (with_reducible repeat (first | refine blk_drewN ?_ _ | refine blk_drew ?_ | refine blk_alloc ?_ _)); refine blk_put (cs := #[.slice none 0 0]) ?_ 0 _ rfl; (with_reducible repeat (first | refine blk_drewN ?_ _ | refine blk_drew ?_ | refine blk_alloc ?_ _)); exact BK230.out) Try.underlying31 rfl (by kernel_rfl)) rfl ?_
    exact ⟨_, by first | rfl | (simp [errW_none, errW_some] <;> rfl) | (simp [*, errW_none, errW_some] <;> rfl), rx (Kd.R_mono (Kd.R_far (p := ⟨gb230, 0, none⟩) (Kd.R_types HO_235000.out BK230.out (by decide)) (fun _ hk => hk.2) (.slice Ao60 x235000_1.length co60)) (fun _ hk => trivial)), zb3 HB.out GE229.out GE230.out GE234.out⟩

/-! ### impl_LoseDisk: function 55 -/
def impl_LoseDisk.l0 : Nat → List Int → List (S66) → Int → Int → List (S66) → Option ((List (S66)) × Bool)
 | 0, _, _, _, _, _ => none
 | k + 1, x1, x17, x18, x19, x249000 => if x19 < x18 then (if 0 ≤ x19 then (if x19 < (x17.length : Int) then (if x19 < (x1.length : Int) then (if 0 ≤ (mx ((rd_T66 x17 x19).f2) (mn (rd x1 x19) (((rd_T66 x17 x19).f1).size : Int))) then (if (mx ((rd_T66 x17 x19).f2) (mn (rd x1 x19) (((rd_T66 x17 x19).f1).size : Int))) ≤ (((rd_T66 x17 x19).f1).size : Int) then (if x19 < (x249000.length : Int) then (impl_LoseDisk.l0 k x1 x17 x18 (wrap64 (x19 + 1)) (x249000.set (x19 : Int).toNat (⟨(rd_T66 x17 x19).f0, ((rd_T66 x17 x19).f1).extract 0 ((mx ((rd_T66 x17 x19).f2) (mn (rd x1 x19) (((rd_T66 x17 x19).f1).size : Int))) : Int).toNat, mx ((rd_T66 x17 x19).f2) (mn (rd x1 x19) (((rd_T66 x17 x19).f1).size : Int))⟩ : S66))) else (none)) else (none)) else (none)) else (if 0 ≤ ((rd_T66 x17 x19).f2) then (if ((rd_T66 x17 x19).f2) ≤ (((rd_T66 x17 x19).f1).size : Int) then (if x19 < (x249000.length : Int) then (impl_LoseDisk.l0 k x1 x17 x18 (wrap64 (x19 + 1)) (x249000.set (x19 : Int).toNat (⟨(rd_T66 x17 x19).f0, ((rd_T66 x17 x19).f1).extract 0 (((rd_T66 x17 x19).f2) : Int).toNat, (rd_T66 x17 x19).f2⟩ : S66))) else (none)) else (none)) else (none))) else (none)) else (none)) else (some (x249000, true))
def impl_LoseDisk.f (k : Nat) (l0_0 : List (S66)) (l1 : List Int) : Option ((List (S66)) × Bool) := (impl_DiskOk.f k l0_0).bind fun t244 => (if t244 = true then ((impl_copyDisk.f l0_0).bind fun t245 => (impl_LoseDisk.l0 k l1 l0_0 (l0_0.length : Int) 0 t245)) else (some (([] : List (S66)), false)))
theorem impl_LoseDisk.mono_l : ∀ k, (∀ y0 y1 y2 y3 y4, LeO (impl_LoseDisk.l0 k y0 y1 y2 y3 y4) (impl_LoseDisk.l0 (k + 1) y0 y1 y2 y3 y4))
 | 0 => fun _ _ _ _ _ r h => by simp [impl_LoseDisk.l0] at h
 | k + 1 => by
  have ih0 := impl_LoseDisk.mono_l k
  ·intro y0 y1 y2 y3 y4
   unfold impl_LoseDisk.l0
   repeat' first
   | (with_reducible exact ih0 _ _ _ _ _)
   | (with_reducible exact impl_DiskOk.mono _ _)
   | (with_reducible exact LeO.refl _)
   | (with_reducible exact LeO.none _)
   | (with_reducible refine LeO.ite ?_ ?_)
   | (with_reducible refine LeO.bind ?_ (fun _ => ?_))
   | exact ih0 _ _ _ _ _
   | exact impl_DiskOk.mono _ _
   | exact LeO.none _
   | refine LeO.ite ?_ ?_
   | refine LeO.bind ?_ (fun _ => ?_)
theorem impl_LoseDisk.mono : ∀ a0 a1 k, LeO (impl_LoseDisk.f k a0 a1) (impl_LoseDisk.f (k + 1) a0 a1) := by
 intro a0 a1 k
 have ih0 := impl_LoseDisk.mono_l k
 unfold impl_LoseDisk.f
 repeat' first
   | (with_reducible exact ih0 _ _ _ _ _)
   | (with_reducible exact impl_DiskOk.mono _ _)
   | (with_reducible exact LeO.refl _)
   | (with_reducible exact LeO.none _)
   | (with_reducible refine LeO.ite ?_ ?_)
   | (with_reducible refine LeO.bind ?_ (fun _ => ?_))
   | exact ih0 _ _ _ _ _
   | exact impl_DiskOk.mono _ _
   | exact LeO.none _
   | refine LeO.ite ?_ ?_
   | refine LeO.bind ?_ (fun _ => ?_)
def impl_LoseDisk.T9 : Bool × List (List Nat × List Nat) := (true, [([], []), ([], []), ([], []), ([1, 2], [1, 2]), ([3], [3]), ([], []), ([5], [5]), ([6], [6]), ([4, 7], [4, 7]), ([0, 8], [0, 8]), ([9, 0, 1, 2, 3, 4, 5, 6, 7, 8, 9], [0, 9])])
def impl_LoseDisk.B9 : List Nat := [0, 0, 0, 6, 14, 0, 32, 96, 254, 511, 1023]
theorem impl_LoseDisk.tab9 : rtab .any (opsOf Try.f55 9) = impl_LoseDisk.T9 := by kernel_rfl
theorem impl_LoseDisk.bits9 : waitsOk impl_LoseDisk.T9.2 impl_LoseDisk.B9 = true := by kernel_rfl
def impl_LoseDisk.T10 : Bool × List (List Nat × List Nat) := (true, [([], []), ([0], [0]), ([], []), ([], []), ([3], [3]), ([], []), ([5], [5]), ([], []), ([6, 7], [6, 7]), ([], []), ([4, 8, 9], [4, 8, 9]), ([1, 2, 0, 1, 2, 3, 4, 5, 6, 7, 8, 9, 10], [1, 2]), ([11, 10, 0, 1, 2, 3, 4, 5, 6, 7, 8, 9, 10], [10, 11])])
def impl_LoseDisk.B10 : List Nat := [0, 1, 0, 0, 8, 0, 32, 0, 224, 0, 1016, 2047, 4095]
theorem impl_LoseDisk.tab10 : rtab .any (opsOf Try.f55 10) = impl_LoseDisk.T10 := by kernel_rfl
theorem impl_LoseDisk.bits10 : waitsOk impl_LoseDisk.T10.2 impl_LoseDisk.B10 = true := by kernel_rfl
set_option maxHeartbeats 8000000 in
set_option maxRecDepth 100000 in
theorem impl_LoseDisk.calls (k : Nat) (A0_0 : Option Addr) (c0_0 : Nat) (l0_0 : List (S66)) (A1 : Option Addr) (c1 : Nat) (l1 : List Int) (r1 : List (S66)) (r2 : Bool) (w : World) (hr0_0 : Kd.C k66 w A0_0 l0_0.length l0_0) (hc0_0 : l0_0.length ≤ c0_0) (hr1 : Kd.C (Kd.int .i64) w A1 l1.length l1) (hc1 : l1.length ≤ c1) (h : impl_LoseDisk.f k l0_0 l1 = some (r1, r2)) :
  Calls Try.prog 55 #[.agg #[.slice A0_0 l0_0.length c0_0], .slice A1 l1.length c1] w fun e w' => ∃ v0_ : Value, e = .returned (.tuple #[.agg #[v0_], .bool r2]) ∧ Kd.R k66 66 w' w.heap.size (fun _ => True) v0_ r1 ∧ Below w.heap.size w w' := by
 have hu31 := Try.underlying31
 have hu66 := Try.underlying66
 have HR0_0 := Aside0.mk hr0_0
 have HC0_0 := Aside0.mk hc0_0
 clear hr0_0 hc0_0
 have HR1 := Aside0.mk hr1
 have HC1 := Aside0.mk hc1
 clear hr1 hc1
 have HB := Aside0.mk (Below.refl w.heap.size w)
 have H : ((impl_DiskOk.f k l0_0).bind fun t244 => (if t244 = true then ((impl_copyDisk.f l0_0).bind fun t245 => (impl_LoseDisk.l0 k l1 l0_0 (l0_0.length : Int) 0 t245)) else (some (([] : List (S66)), false)))) = some (r1, r2) := h
 clear h
 replace H := Option.bind_eq_some_iff.mp H
 obtain ⟨t244, A30, H⟩ := H
 try dsimp only at H
 have A3 := Aside0.mk A30
 clear A30
 by_cases c4 : t244 = true
 ·subst c4
  have H1 : ((impl_copyDisk.f l0_0).bind fun t245 => (impl_LoseDisk.l0 k l1 l0_0 (l0_0.length : Int) 0 t245)) = some (r1, r2) := by rw [if_pos rfl] at H; exact H
  clear H
  have H := H1
  clear H1
  replace H := Option.bind_eq_some_iff.mp H
  obtain ⟨t245, A50, H⟩ := H
  try dsimp only at H
  have A5 := Aside0.mk A50
  clear A50
  have H' := Aside0.mk H
  clear H
  go_enter Try.func55, Try.ntmps55
  go_wp2_with (first | ((with_reducible refine gate_dst (N := 2) rfl ?_); refine box_event rfl (N := 2) rfl (cs := #[.slice A0_0 l0_0.length c0_0]) (t := 31) zrun ?_; intro gb242 hg w6 hbox hb; have BK242 := am (hbox); have GW242 := zge hg (zb0 HB.out); have GE242 := zge hg (zb0 HB.out); replace HB := zs0 hb HB; clear hb hbox hg) | ((with_reducible refine gate_dst (N := 4) rfl ?_); refine box_event rfl (N := 4) rfl (cs := #[.slice none 0 0]) (t := 31) zrun ?_; intro gb243 hg w7 hbox hb; have BK243 := am (hbox); have GW243 := zge hg (zb1 HB.out GE242.out); have GE243 := zge hg (zb1 HB.out GE242.out); obtain ⟨NB242_243, NB243_242⟩ := zne hg BK242; replace BK242 := zk hb BK242; replace HB := zs1 hb HB GE242; clear hb hbox hg; obtain ⟨hnb8, hnc8⟩ := zn2 NB242_243; obtain ⟨hcz9_0, hfz9_0⟩ := zc1 BK242.out) | ((with_reducible refine gate_callee (f := 39) rfl ?_); refine goesL_ (some 11) rfl rfl Try.func39 (by kernel_rfl) rfl #[.agg #[.slice A0_0 l0_0.length c0_0]] rfl zr ?_; (with_reducible refine (impl_DiskOk.calls k _ _ l0_0 true _ ?side1 ?side2 A3.out).mono ?_); (case side1 => repeat (first | exact (Kd.C_below HR0_0.out HB.out) | (with_reducible refine Kd.C_alloc ?_ _) | (with_reducible refine Kd.C_drewN ?_ _) | (with_reducible refine Kd.C_drew ?_))); (case side2 => exact HC0_0.out); rintro e w10 ⟨rfl, hb⟩; refine ⟨_, rfl, ?_⟩; replace BK242 := zk hb BK242; replace BK243 := zk hb BK243; replace HB := zs2 hb HB GE242 GE243; clear hb; obtain ⟨hcz11_0, hfz11_0⟩ := zc1 BK242.out) | ((with_reducible refine gate_callee (f := 46) rfl ?_); refine goesL_ (some 15) rfl rfl Try.func46 (by kernel_rfl) rfl #[.agg #[.slice A0_0 l0_0.length c0_0]] rfl zr ?_; (with_reducible refine (impl_copyDisk.calls _ _ l0_0 t245 _ ?side1 ?side2 A5.out).mono ?_); (case side1 => repeat (first | exact (Kd.C_below HR0_0.out HB.out) | (with_reducible refine Kd.C_alloc ?_ _) | (with_reducible refine Kd.C_drewN ?_ _) | (with_reducible refine Kd.C_drew ?_))); (case side2 => exact HC0_0.out); rintro e w12 ⟨v246, rfl, ho0, hb⟩; refine ⟨_, rfl, ?_⟩; have HO247 := am (Kd.R_lower ho0 (below_size (zb2 HB.out GE242.out GE243.out))); replace BK242 := zk hb BK242; replace BK243 := zk hb BK243; replace HB := zs2 hb HB GE242 GE243; clear hb ho0) | ((with_reducible refine gate_dst (N := 6) rfl ?_); refine box_event rfl (N := 6) rfl (cs := #[.slice none 0 0]) (t := 31) zrun ?_; intro gb248 hg w13 hbox hb; have BK248 := am (hbox); have GE248 := zge hg (zb2 HB.out GE242.out GE243.out); obtain ⟨NB242_248, NB248_242⟩ := zne hg BK242; obtain ⟨NB243_248, NB248_243⟩ := zne hg BK243; replace HO247 := am (Kd.R_below (rx HO247.out) hb); replace BK242 := zk hb BK242; replace BK243 := zk hb BK243; replace HB := zs2 hb HB GE242 GE243; clear hb hbox hg; obtain ⟨Ao14, co14, eo14⟩ := Kd.R_slice HO247.out; subst eo14; obtain ⟨hnb15, hnc15⟩ := zn2 NB248_242; obtain ⟨hnb16, hnc16⟩ := zn2 NB248_243; obtain ⟨hcz17_0, hfz17_0⟩ := zc1 BK248.out; obtain ⟨hcz18_0, hfz18_0⟩ := zc1 BK242.out))
  go_loopg [19] k (fun kq v19 w' => ∃ (x19_1 : Int) (x249000_1 : List (S66)) (u249000 : Value), v19 = .int .i64 x19_1 ∧ Aside0 (impl_LoseDisk.l0 kq l1 l0_0 (l0_0.length : Int) x19_1 x249000_1 = some (r1, r2)) ∧ Aside0 (kq ≤ k) ∧ Aside0 (Kd.R k66 66 w' w.heap.size (fun _ => True) u249000 x249000_1) ∧ Aside0 (w'.heap[gb242]? = some (.cells #[(.slice A0_0 l0_0.length c0_0)] 31 (0, 0))) ∧ Aside0 (w'.heap[gb243]? = some (.cells #[(.slice none 0 0)] 31 (0, 0))) ∧ Aside0 (w'.heap[gb248]? = some (.cells #[u249000] 31 (0, 0))) ∧ Aside0 (Below w.heap.size w w'))
  case atStart => exact ⟨(0), (t245), (.slice Ao14 t245.length co14), (by first | rfl | (simp; done) | (simp [*]; done)), H', ⟨Nat.le_refl _⟩, ⟨rx (Kd.R_mono (Kd.R_far (p := ⟨gb248, 0, none⟩) (Kd.R_types HO247.out BK248.out (by decide)) (fun _ hk => hk.2) (.slice Ao14 t245.length co14)) (fun _ hk => trivial))⟩, ⟨zf1 BK242.out NB242_248.out⟩, ⟨zf1 BK243.out NB243_248.out⟩, ⟨by (with_reducible repeat (first | refine blk_drewN ?_ _ | refine blk_drew ?_ | refine blk_alloc ?_ _)); refine blk_put (cs := #[.slice none 0 0]) ?_ 0 _ rfl; (with_reducible repeat (first | refine blk_drewN ?_ _ | refine blk_drew ?_ | refine blk_alloc ?_ _)); exact BK248.out⟩, ⟨zb3 HB.out GE242.out GE243.out GE248.out⟩⟩
  case round =>
   clear H'
   obtain ⟨x19_1, x249000_1, u249000, rfl, HA, HK1, HO_249000, BK242, BK243, BK248, HB⟩ := hrel
   cases gk with
   | zero => exact absurd HA.out (by simp [impl_LoseDisk.l0])
   | succ k1 =>
    have H := HA.out
    clear HA
    simp only [impl_LoseDisk.l0] at H
    by_cases c19 : x19_1 < (l0_0.length : Int)
    ·rw [if_pos c19] at H
     have c19b0 : decide (x19_1 < (l0_0.length : Int)) = true := decide_eq_true c19
     have c19b1 : decide ((l0_0.length : Int) ≤ x19_1) = false := decide_eq_false (by omega)
     clear c19
     by_cases c20 : 0 ≤ x19_1
     ·rw [if_pos c20] at H
      have c20b0 : decide (0 ≤ x19_1) = true := decide_eq_true c20
      clear c20
      by_cases c21 : x19_1 < (l0_0.length : Int)
      ·rw [if_pos c21] at H
       have c21b0 : decide (x19_1 < (l0_0.length : Int)) = true := decide_eq_true c21
       have c21b1 : decide ((l0_0.length : Int) ≤ x19_1) = false := decide_eq_false (by omega)
       clear c21
       by_cases c22 : x19_1 < (l1.length : Int)
       ·rw [if_pos c22] at H
        have c22b0 : decide (x19_1 < (l1.length : Int)) = true := decide_eq_true c22
        have c22b1 : decide ((l1.length : Int) ≤ x19_1) = false := decide_eq_false (by omega)
        clear c22
        obtain ⟨ji23, hji23⟩ : ∃ j_ : Int, (mn (rd l1 x19_1) (((rd_T66 l0_0 x19_1).f1).size : Int)) = j_ := ⟨_, rfl⟩
        replace H : (if 0 ≤ (mx ((rd_T66 l0_0 x19_1).f2) (ji23)) then (if (mx ((rd_T66 l0_0 x19_1).f2) (ji23)) ≤ (((rd_T66 l0_0 x19_1).f1).size : Int) then (if x19_1 < (x249000_1.length : Int) then (impl_LoseDisk.l0 k1 l1 l0_0 (l0_0.length : Int) (wrap64 (x19_1 + 1)) (x249000_1.set (x19_1 : Int).toNat (⟨(rd_T66 l0_0 x19_1).f0, ((rd_T66 l0_0 x19_1).f1).extract 0 ((mx ((rd_T66 l0_0 x19_1).f2) (ji23)) : Int).toNat, mx ((rd_T66 l0_0 x19_1).f2) (ji23)⟩ : S66))) else (none)) else (none)) else (none)) = some (r1, r2) := by first | (rw [hji23] at H; exact H) | (simp only [hji23] at H ⊢; exact H)
        have hji23_ : (if (((rd_T66 l0_0 x19_1).f1).size : Int) < (rd l1 x19_1) then (((rd_T66 l0_0 x19_1).f1).size : Int) else (rd l1 x19_1)) = ji23 := hji23
        obtain ⟨ji24, hji24⟩ : ∃ j_ : Int, (mx ((rd_T66 l0_0 x19_1).f2) (ji23)) = j_ := ⟨_, rfl⟩
        replace H : (if 0 ≤ (ji24) then (if (ji24) ≤ (((rd_T66 l0_0 x19_1).f1).size : Int) then (if x19_1 < (x249000_1.length : Int) then (impl_LoseDisk.l0 k1 l1 l0_0 (l0_0.length : Int) (wrap64 (x19_1 + 1)) (x249000_1.set (x19_1 : Int).toNat (⟨(rd_T66 l0_0 x19_1).f0, ((rd_T66 l0_0 x19_1).f1).extract 0 ((ji24) : Int).toNat, ji24⟩ : S66))) else (none)) else (none)) else (none)) = some (r1, r2) := by first | (rw [hji24] at H; exact H) | (simp only [hji24] at H ⊢; exact H)
        have hji24_ : (if ((rd_T66 l0_0 x19_1).f2) < (ji23) then (ji23) else ((rd_T66 l0_0 x19_1).f2)) = ji24 := hji24
        by_cases c25 : 0 ≤ (ji24)
        ·rw [if_pos c25] at H
         have c25b0 := eq_true c25
         have c25b1 : decide (0 ≤ (ji24)) = true := decide_eq_true c25
         clear c25
         by_cases c26 : (ji24) ≤ (((rd_T66 l0_0 x19_1).f1).size : Int)
         ·rw [if_pos c26] at H
          have c26b0 := eq_true c26
          have c26b1 : decide ((ji24) ≤ (((rd_T66 l0_0 x19_1).f1).size : Int)) = true := decide_eq_true c26
          clear c26
          by_cases c27 : x19_1 < (x249000_1.length : Int)
          ·rw [if_pos c27] at H
           have c27b0 : decide (x19_1 < (x249000_1.length : Int)) = true := decide_eq_true c27
           have c27b1 : decide ((x249000_1.length : Int) ≤ x19_1) = false := decide_eq_false (by omega)
           clear c27
           obtain ⟨y252, hy252⟩ : ∃ y_ : List (S66), y_ = (x249000_1.set (x19_1 : Int).toNat (⟨(rd_T66 l0_0 x19_1).f0, ((rd_T66 l0_0 x19_1).f1).extract 0 ((ji24) : Int).toNat, ji24⟩ : S66)) := ⟨_, rfl⟩
           replace H : (impl_LoseDisk.l0 k1 l1 l0_0 (l0_0.length : Int) (wrap64 (x19_1 + 1)) y252) = some (r1, r2) := by first | (rw [hy252]; with_reducible exact H) | (have H2_ := (Option.bind_some _ _).symm.trans H; rw [hy252]; with_reducible exact H2_) | (have H2_ := (Option.bind_some _ _).symm.trans H; with_reducible exact H2_) | with_reducible exact H | (rw [hy252]; exact H) | exact H
           have Ny252 := Aside0.mk hy252
           clear hy252
           have H' := Aside0.mk H
           clear H
           have p249 : 0 ≤ (x19_1 : Int) := of_decide_eq_true (by first | (with_reducible assumption) | assumption)
           have q249 : x19_1 < (l0_0.length : Int) := of_decide_eq_true (by first | (with_reducible assumption) | assumption)
           obtain ⟨ad249, e249, hx249_0, hx249_1, hx249_2⟩ := at_T66 HR0_0.out x19_1 p249 q249
           cases e249
           replace hx249_0 := (HB.out.cell (World.block_lt_of_cell? w _ hx249_0)).trans hx249_0
           replace hx249_1 := (HB.out.cell (World.block_lt_of_cell? w _ hx249_1)).trans hx249_1
           replace hx249_2 := (HB.out.cell (World.block_lt_of_cell? w _ hx249_2)).trans hx249_2
           replace p249 := eq_true p249
           replace q249 := eq_true q249
           try go_wp2_with (first | ((with_reducible refine gate_dst (N := 8) rfl ?_); refine box_event rfl (N := 8) rfl (cs := #[.string (⟨#[]⟩ : ByteArray), .string (⟨#[]⟩ : ByteArray), .int .i64 0]) (t := 66) zrun ?_; intro gb250 hg w29 hbox hb; have BK250 := am (hbox); have GW250 := zge hg (zb3 HB.out GE242.out GE243.out GE248.out); have GE250 := zge hg (zb3 HB.out GE242.out GE243.out GE248.out); obtain ⟨NB242_250, NB250_242⟩ := zne hg BK242; obtain ⟨NB243_250, NB250_243⟩ := zne hg BK243; obtain ⟨NB248_250, NB250_248⟩ := zne hg BK248; replace HO_249000 := am (Kd.R_below (Kd.R_elderB (rx HO_249000.out) gb250 (Nat.le_of_eq hg.symm)) hb); replace BK242 := zk hb BK242; replace BK243 := zk hb BK243; replace BK248 := zk hb BK248; replace HB := zs3 hb HB GE242 GE243 GE248; clear hb hbox hg; obtain ⟨hnb30, hnc30⟩ := zn2 NB250_242; obtain ⟨hnb31, hnc31⟩ := zn2 NB250_243; obtain ⟨hnb32, hnc32⟩ := zn2 NB250_248; obtain ⟨hcz33_0, hcz33_1, hcz33_2, hfz33_0, hfz33_1, hfz33_2⟩ := zc3 BK250.out))
           have n0_ : Aside0 (Kd.R k66 66 (((w29.setCell ⟨gb250, 0, none⟩ (.string ((rd_T66 l0_0 x19_1).f0))).setCell ⟨gb250, 1, none⟩ (.string ((rd_T66 l0_0 x19_1).f1))).setCell ⟨gb250, 2, none⟩ (.int .i64 ((rd_T66 l0_0 x19_1).f2))) w.heap.size (fun k_ => k_ ≠ gb250) u249000 x249000_1) := ⟨rx (Kd.R_mono (Kd.R_far (p := ⟨gb250, 2, none⟩) (Kd.R_far (p := ⟨gb250, 1, none⟩) (Kd.R_far (p := ⟨gb250, 0, none⟩) (Kd.R_mono HO_249000.out (fun k_ hk => (⟨hk, hk.2⟩ : _ ∧ k_ ≠ gb250))) (fun _ hk => hk.2) (.string ((rd_T66 l0_0 x19_1).f0))) (fun _ hk => hk.2) (.string ((rd_T66 l0_0 x19_1).f1))) (fun _ hk => hk.2) (.int .i64 ((rd_T66 l0_0 x19_1).f2))) (fun _ hk => hk.1.2))⟩
           have n1_ : Aside0 ((((w29.setCell ⟨gb250, 0, none⟩ (.string ((rd_T66 l0_0 x19_1).f0))).setCell ⟨gb250, 1, none⟩ (.string ((rd_T66 l0_0 x19_1).f1))).setCell ⟨gb250, 2, none⟩ (.int .i64 ((rd_T66 l0_0 x19_1).f2))).heap[gb242]? = some (.cells #[.slice (some ad249) l0_0.length c0_0] 31 (0, 0))) := ⟨zf1 BK242.out NB242_250.out⟩
           have n2_ : Aside0 ((((w29.setCell ⟨gb250, 0, none⟩ (.string ((rd_T66 l0_0 x19_1).f0))).setCell ⟨gb250, 1, none⟩ (.string ((rd_T66 l0_0 x19_1).f1))).setCell ⟨gb250, 2, none⟩ (.int .i64 ((rd_T66 l0_0 x19_1).f2))).heap[gb243]? = some (.cells #[.slice none 0 0] 31 (0, 0))) := ⟨zf1 BK243.out NB243_250.out⟩
           have n3_ : Aside0 ((((w29.setCell ⟨gb250, 0, none⟩ (.string ((rd_T66 l0_0 x19_1).f0))).setCell ⟨gb250, 1, none⟩ (.string ((rd_T66 l0_0 x19_1).f1))).setCell ⟨gb250, 2, none⟩ (.int .i64 ((rd_T66 l0_0 x19_1).f2))).heap[gb248]? = some (.cells #[u249000] 31 (0, 0))) := ⟨zf1 BK248.out NB248_250.out⟩
           have n4_ : Aside0 ((((w29.setCell ⟨gb250, 0, none⟩ (.string ((rd_T66 l0_0 x19_1).f0))).setCell ⟨gb250, 1, none⟩ (.string ((rd_T66 l0_0 x19_1).f1))).setCell ⟨gb250, 2, none⟩ (.int .i64 ((rd_T66 l0_0 x19_1).f2))).heap[gb250]? = some (.cells #[.string ((rd_T66 l0_0 x19_1).f0), .string ((rd_T66 l0_0 x19_1).f1), .int .i64 ((rd_T66 l0_0 x19_1).f2)] 66 (0, 0))) := ⟨by (with_reducible repeat (first | refine blk_drewN ?_ _ | refine blk_drew ?_ | refine blk_alloc ?_ _)); refine blk_put (cs := #[.string ((rd_T66 l0_0 x19_1).f0), .string ((rd_T66 l0_0 x19_1).f1), .int .i64 0]) ?_ 2 _ rfl; (with_reducible repeat (first | refine blk_drewN ?_ _ | refine blk_drew ?_ | refine blk_alloc ?_ _)); refine blk_put (cs := #[.string ((rd_T66 l0_0 x19_1).f0), .string (⟨#[]⟩ : ByteArray), .int .i64 0]) ?_ 1 _ rfl; (with_reducible repeat (first | refine blk_drewN ?_ _ | refine blk_drew ?_ | refine blk_alloc ?_ _)); refine blk_put (cs := #[.string (⟨#[]⟩ : ByteArray), .string (⟨#[]⟩ : ByteArray), .int .i64 0]) ?_ 0 _ rfl; (with_reducible repeat (first | refine blk_drewN ?_ _ | refine blk_drew ?_ | refine blk_alloc ?_ _)); exact BK250.out⟩
           have n5_ : Aside0 (Below w.heap.size w (((w29.setCell ⟨gb250, 0, none⟩ (.string ((rd_T66 l0_0 x19_1).f0))).setCell ⟨gb250, 1, none⟩ (.string ((rd_T66 l0_0 x19_1).f1))).setCell ⟨gb250, 2, none⟩ (.int .i64 ((rd_T66 l0_0 x19_1).f2)))) := ⟨zb4 HB.out GE242.out GE243.out GE248.out GE250.out⟩
           generalize (((w29.setCell ⟨gb250, 0, none⟩ (.string ((rd_T66 l0_0 x19_1).f0))).setCell ⟨gb250, 1, none⟩ (.string ((rd_T66 l0_0 x19_1).f1))).setCell ⟨gb250, 2, none⟩ (.int .i64 ((rd_T66 l0_0 x19_1).f2))) = w34 at n0_ n1_ n2_ n3_ n4_ n5_ ⊢
           have HO_249000 := n0_
           have BK242 := n1_
           have BK243 := n2_
           have BK248 := n3_
           have BK250 := n4_
           have HB := n5_
           clear n0_ n1_ n2_ n3_ n4_ n5_
           replace HO_249000 := am (Kd.R_drew HO_249000.out)
           replace BK242 := am (blk_drew BK242.out)
           replace BK243 := am (blk_drew BK243.out)
           replace BK248 := am (blk_drew BK248.out)
           replace BK250 := am (blk_drew BK250.out)
           replace HB := am (below_drew1 HB.out)
           have p251 : 0 ≤ (x19_1 : Int) := of_decide_eq_true (by first | (with_reducible assumption) | assumption)
           have q251 : x19_1 < (l1.length : Int) := of_decide_eq_true (by first | (with_reducible assumption) | assumption)
           obtain ⟨ad251, e251, hx251_0⟩ := Kd.at_int HR1.out x19_1 p251 q251
           have hw251_0 := hx251_0
           cases e251
           replace hx251_0 := (HB.out.cell (World.block_lt_of_cell? w _ hx251_0)).trans hx251_0
           replace p251 := eq_true p251
           replace q251 := eq_true q251
           refine start_ (n := 11) (S := fun w' => w'.cell? ⟨gb250, 0, none⟩ = some (.string ((rd_T66 l0_0 x19_1).f0)) ∧ w'.cell? ⟨gb250, 1, none⟩ = some (.string ((rd_T66 l0_0 x19_1).f1)) ∧ w'.cell? ⟨gb250, 2, none⟩ = some (.int .i64 ((rd_T66 l0_0 x19_1).f2)) ∧ w'.cell? (ad251.add (x19_1).toNat) = some (.int .i64 (rd l1 x19_1))) (ds := []) #[false, false, false, false, false, false, false, false, false, false, false] (by kernel_rfl) rfl rfl ⟨ct BK250.out 0, ct BK250.out 1, ct BK250.out 2, ((HB.out.cell (World.block_lt_of_cell? w _ hw251_0)).trans hw251_0)⟩ (fun hHeld => ?_); refine with_tabW impl_LoseDisk.tab9 impl_LoseDisk.bits9 (fun HT_ HW_ => ?_)
           generalize w34.drew = w35 at HO_249000 BK242 BK243 BK248 BK250 HB hx251_0 hHeld ⊢
           refine zpu 0 30 #[true, false, false, false, false, false, false, false, false, false, false] HT_ ?_
           refine zpu 1 31 #[true, true, false, false, false, false, false, false, false, false, false] HT_ ?_
           refine zpu 2 32 #[true, true, true, false, false, false, false, false, false, false, false] HT_ ?_
           refine zpu 3 33 #[true, true, true, true, false, false, false, false, false, false, false] HT_ ?_
           refine zpu 5 35 #[true, true, true, true, false, true, false, false, false, false, false] HT_ ?_
           refine ztk4 4 34 #[true, true, true, true, true, true, false, false, false, false, false] HT_ HW_ hHeld ?_
           refine ztk4 6 36 #[true, true, true, true, true, true, true, false, false, false, false] HT_ HW_ hHeld ?_
           refine zpu 7 37 #[true, true, true, true, true, true, true, true, false, false, false] HT_ ?_
           refine zpu 8 38 #[true, true, true, true, true, true, true, true, true, false, false] HT_ ?_
           refine zpu 9 39 #[true, true, true, true, true, true, true, true, true, true, false] HT_ ?_
           refine zpu 10 9 #[true, true, true, true, true, true, true, true, true, true, true] HT_ ?_
           refine zdn HT_ ?_
           try go_wp2
           replace HO_249000 := am (Kd.R_drew HO_249000.out)
           replace BK242 := am (blk_drew BK242.out)
           replace BK243 := am (blk_drew BK243.out)
           replace BK248 := am (blk_drew BK248.out)
           replace BK250 := am (blk_drew BK250.out)
           replace HB := am (below_drew1 HB.out)
           have p28 : 0 ≤ (x19_1 : Int) := of_decide_eq_true (by first | (with_reducible assumption) | assumption)
           have q28 : (x19_1 : Int) < ((x249000_1.length : Int) : Int) := of_decide_eq_true (by first | (with_reducible assumption) | assumption)
           obtain ⟨go28, co28, eo28, gb28, gl28, cl28, HG28⟩ := Kd.R_form HO_249000.out (by omega)
           (first | cases eo28 | (injection eo28 with ea_ en_ ec_; (first | subst ea_ | (injection ea_ with ea_; subst ea_)); subst ec_; clear en_))
           have GB28 := Aside0.mk gb28
           have GG28 := Aside0.mk HG28
           clear gb28 gl28 HG28
           obtain ⟨ce28, hcl28, hM28, hcc28, hfr28⟩ := Kd.R_elem HO_249000.out z66 (x19_1 : Int) p28 q28
           obtain rfl := k66_openM hM28
           have hx28_0 : World.cell? _ ⟨go28, (x19_1 : Int).toNat * 3, none⟩ = some (.string ((rd_T66 x249000_1 x19_1).f0)) := hcc28 0 _ rfl
           have hx28_1 : World.cell? _ ⟨go28, (x19_1 : Int).toNat * 3 + 1, none⟩ = some (.string ((rd_T66 x249000_1 x19_1).f1)) := hcc28 1 _ rfl
           have hx28_2 : World.cell? _ ⟨go28, (x19_1 : Int).toNat * 3 + 2, none⟩ = some (.int .i64 ((rd_T66 x249000_1 x19_1).f2)) := hcc28 2 _ rfl
           have hf28_0 : World.frozen? _ ⟨go28, (x19_1 : Int).toNat * 3, none⟩ = false := hfr28 0
           have hf28_1 : World.frozen? _ ⟨go28, (x19_1 : Int).toNat * 3 + 1, none⟩ = false := hfr28 1
           have hf28_2 : World.frozen? _ ⟨go28, (x19_1 : Int).toNat * 3 + 2, none⟩ = false := hfr28 2
           clear hcl28 hcc28 hfr28 hM28
           replace p28 := eq_true p28
           replace q28 := eq_true q28
           obtain ⟨ce37, hcl37, hM37, hcc37, hfr37⟩ := Kd.R_elem HO_249000.out z66 (x19_1 : Int) (of_decide_eq_true (by first | (with_reducible assumption) | assumption)) (by have h_ : (x19_1 : Int) < ((x249000_1.length : Int) : Int) := of_decide_eq_true (by first | (with_reducible assumption) | assumption); first | exact h_ | (have e_ := (Kd.R_reads' HO_249000.out).1; omega) | simpa using h_)
           obtain rfl := k66_openM hM37
           have HP37 := (Kd.R_seg HO_249000.out (x19_1 : Int) (of_decide_eq_true (by first | (with_reducible assumption) | assumption)) (by have h_ : (x19_1 : Int) < ((x249000_1.length : Int) : Int) := of_decide_eq_true (by first | (with_reducible assumption) | assumption); first | exact h_ | (have e_ := (Kd.R_reads' HO_249000.out).1; omega) | simpa using h_) (seg := [.string ((rd_T66 l0_0 x19_1).f0), .string (((rd_T66 l0_0 x19_1).f1).extract 0 ((ji24) : Int).toNat), .int .i64 ji24]) (j := 0) hcl37 hcc37 (show 3 ≤ 3 from by decide) (x' := (⟨(rd_T66 l0_0 x19_1).f0, ((rd_T66 l0_0 x19_1).f1).extract 0 ((ji24) : Int).toNat, ji24⟩ : S66)) (k66_mkM _ _ _ (⟨(rd_T66 l0_0 x19_1).f0, ((rd_T66 l0_0 x19_1).f1).extract 0 ((ji24) : Int).toNat, ji24⟩ : S66) ) (fun _ hk => hk)).1
           rw [← Ny252.out] at HP37
           have HQ37 := Aside0.mk HP37
           clear hcl37 hcc37 hfr37 hM37 HP37
           refine start_ (n := 13) (S := fun w' => w'.cell? ⟨gb248, 0, none⟩ = some (.slice (some ⟨go28, 0, none⟩) x249000_1.length co28) ∧ w'.cell? ⟨gb250, 0, none⟩ = some (.string ((rd_T66 l0_0 x19_1).f0)) ∧ w'.cell? ⟨gb250, 1, none⟩ = some (.string ((rd_T66 l0_0 x19_1).f1)) ∧ w'.cell? ⟨gb250, 2, none⟩ = some (.int .i64 ((rd_T66 l0_0 x19_1).f2))) (ds := [12]) #[false, false, false, false, false, false, false, false, false, false, false, false, false] (by kernel_rfl) rfl rfl ⟨ct BK248.out 0, ct BK250.out 0, ct BK250.out 1, ct BK250.out 2⟩ (fun hHeld => ?_); refine with_tabW impl_LoseDisk.tab10 impl_LoseDisk.bits10 (fun HT_ HW_ => ?_)
           generalize w35.drew = w36 at HO_249000 BK242 BK243 BK248 BK250 HB GG28 HQ37 hf28_0 hf28_1 hf28_2 hx28_0 hx28_1 hx28_2 hHeld ⊢
           refine zpu 0 40 #[true, false, false, false, false, false, false, false, false, false, false, false, false] HT_ ?_
           refine zpu 2 42 #[true, false, true, false, false, false, false, false, false, false, false, false, false] HT_ ?_
           refine zpu 3 43 #[true, false, true, true, false, false, false, false, false, false, false, false, false] HT_ ?_
           refine zpu 5 45 #[true, false, true, true, false, true, false, false, false, false, false, false, false] HT_ ?_
           refine zpu 7 47 #[true, false, true, true, false, true, false, true, false, false, false, false, false] HT_ ?_
           refine zpu 9 49 #[true, false, true, true, false, true, false, true, false, true, false, false, false] HT_ ?_
           refine ztk4 1 41 #[true, true, true, true, false, true, false, true, false, true, false, false, false] HT_ HW_ hHeld ?_
           refine ztk4 4 44 #[true, true, true, true, true, true, false, true, false, true, false, false, false] HT_ HW_ hHeld ?_
           refine ztk4 6 46 #[true, true, true, true, true, true, true, true, false, true, false, false, false] HT_ HW_ hHeld ?_
           refine zpu 8 48 #[true, true, true, true, true, true, true, true, true, true, false, false, false] HT_ ?_
           refine zpu 10 50 #[true, true, true, true, true, true, true, true, true, true, true, false, false] HT_ ?_
           refine zpu 11 51 #[true, true, true, true, true, true, true, true, true, true, true, true, false] HT_ ?_
           refine last_ (i := 12) (N := none) #[true, true, true, true, true, true, true, true, true, true, true, true, true] rfl rfl (one_of HT_.out (by kernel_rfl)) (by decide) (fun K hK => ?_)
           refine skip_ (w1 := ?_) (by rfl) rfl ?_ ?_
           rotate_left
           ·go_simp
            rfl
           refine hK.out _ _ ?_
           clear hK K
           refine zdn HT_ ?_
           try go_wp2
           go_roundg k1
           case measure => have := HK1.out; omega
           case rel => exact ⟨(wrap64 (x19_1 + 1)), (y252), (.slice (some ⟨go28, 0, none⟩) x249000_1.length co28), (by first | rfl | (simp; done) | (simp [*]; done)), H', ⟨by have := HK1.out; omega⟩, ⟨rx (Kd.R_mono HQ37.out (fun _ hk => trivial))⟩, ⟨by (with_reducible repeat (first | refine blk_drewN ?_ _ | refine blk_drew ?_ | refine blk_alloc ?_ _)); refine blk_far ?_ (by have h_ := Kd.R_ne HO_249000.out BK242.out (by decide); intro e_; exact h_ (by rw [e_]; rfl)) _; (with_reducible repeat (first | refine blk_drewN ?_ _ | refine blk_drew ?_ | refine blk_alloc ?_ _)); refine blk_far ?_ (by have h_ := Kd.R_ne HO_249000.out BK242.out (by decide); intro e_; exact h_ (by rw [e_]; rfl)) _; (with_reducible repeat (first | refine blk_drewN ?_ _ | refine blk_drew ?_ | refine blk_alloc ?_ _)); refine blk_far ?_ (by have h_ := Kd.R_ne HO_249000.out BK242.out (by decide); intro e_; exact h_ (by rw [e_]; rfl)) _; (with_reducible repeat (first | refine blk_drewN ?_ _ | refine blk_drew ?_ | refine blk_alloc ?_ _)); exact BK242.out⟩, ⟨by (with_reducible repeat (first | refine blk_drewN ?_ _ | refine blk_drew ?_ | refine blk_alloc ?_ _)); refine blk_far ?_ (by have h_ := Kd.R_ne HO_249000.out BK243.out (by decide); intro e_; exact h_ (by rw [e_]; rfl)) _; (with_reducible repeat (first | refine blk_drewN ?_ _ | refine blk_drew ?_ | refine blk_alloc ?_ _)); refine blk_far ?_ (by have h_ := Kd.R_ne HO_249000.out BK243.out (by decide); intro e_; exact h_ (by rw [e_]; rfl)) _; (with_reducible repeat (first | refine blk_drewN ?_ _ | refine blk_drew ?_ | refine blk_alloc ?_ _)); refine blk_far ?_ (by have h_ := Kd.R_ne HO_249000.out BK243.out (by decide); intro e_; exact h_ (by rw [e_]; rfl)) _; (with_reducible repeat (first | refine blk_drewN ?_ _ | refine blk_drew ?_ | refine blk_alloc ?_ _)); exact BK243.out⟩, ⟨by (with_reducible repeat (first | refine blk_drewN ?_ _ | refine blk_drew ?_ | refine blk_alloc ?_ _)); refine blk_far ?_ (by have h_ := Kd.R_ne HO_249000.out BK248.out (by decide); intro e_; exact h_ (by rw [e_]; rfl)) _; (with_reducible repeat (first | refine blk_drewN ?_ _ | refine blk_drew ?_ | refine blk_alloc ?_ _)); refine blk_far ?_ (by have h_ := Kd.R_ne HO_249000.out BK248.out (by decide); intro e_; exact h_ (by rw [e_]; rfl)) _; (with_reducible repeat (first | refine blk_drewN ?_ _ | refine blk_drew ?_ | refine blk_alloc ?_ _)); refine blk_far ?_ (by have h_ := Kd.R_ne HO_249000.out BK248.out (by decide); intro e_; exact h_ (by rw [e_]; rfl)) _; (with_reducible repeat (first | refine blk_drewN ?_ _ | refine blk_drew ?_ | refine blk_alloc ?_ _)); exact BK248.out⟩, ⟨zb7 HB.out GB28.out GB28.out GB28.out GE242.out GE243.out GE248.out GE250.out⟩⟩
          ·rw [if_neg c27] at H
           exact absurd H (by simp)
         ·rw [if_neg c26] at H
          exact absurd H (by simp)
        ·rw [if_neg c25] at H
         exact absurd H (by simp)
       ·rw [if_neg c22] at H
        have c22b0 : decide (x19_1 < (l1.length : Int)) = false := decide_eq_false c22
        have c22b1 : decide ((l1.length : Int) ≤ x19_1) = true := decide_eq_true (by omega)
        clear c22
        by_cases c38 : 0 ≤ ((rd_T66 l0_0 x19_1).f2)
        ·rw [if_pos c38] at H
         have c38b0 := eq_true c38
         have c38b1 : decide (0 ≤ ((rd_T66 l0_0 x19_1).f2)) = true := decide_eq_true c38
         clear c38
         by_cases c39 : ((rd_T66 l0_0 x19_1).f2) ≤ (((rd_T66 l0_0 x19_1).f1).size : Int)
         ·rw [if_pos c39] at H
          have c39b0 := eq_true c39
          have c39b1 : decide (((rd_T66 l0_0 x19_1).f2) ≤ (((rd_T66 l0_0 x19_1).f1).size : Int)) = true := decide_eq_true c39
          clear c39
          by_cases c40 : x19_1 < (x249000_1.length : Int)
          ·rw [if_pos c40] at H
           have c40b0 : decide (x19_1 < (x249000_1.length : Int)) = true := decide_eq_true c40
           have c40b1 : decide ((x249000_1.length : Int) ≤ x19_1) = false := decide_eq_false (by omega)
           clear c40
           obtain ⟨y253, hy253⟩ : ∃ y_ : List (S66), y_ = (x249000_1.set (x19_1 : Int).toNat (⟨(rd_T66 l0_0 x19_1).f0, ((rd_T66 l0_0 x19_1).f1).extract 0 (((rd_T66 l0_0 x19_1).f2) : Int).toNat, (rd_T66 l0_0 x19_1).f2⟩ : S66)) := ⟨_, rfl⟩
           replace H : (impl_LoseDisk.l0 k1 l1 l0_0 (l0_0.length : Int) (wrap64 (x19_1 + 1)) y253) = some (r1, r2) := by first | (rw [hy253]; with_reducible exact H) | (have H2_ := (Option.bind_some _ _).symm.trans H; rw [hy253]; with_reducible exact H2_) | (have H2_ := (Option.bind_some _ _).symm.trans H; with_reducible exact H2_) | with_reducible exact H | (rw [hy253]; exact H) | exact H
           have Ny253 := Aside0.mk hy253
           clear hy253
           have H' := Aside0.mk H
           clear H
           have p249 : 0 ≤ (x19_1 : Int) := of_decide_eq_true (by first | (with_reducible assumption) | assumption)
           have q249 : x19_1 < (l0_0.length : Int) := of_decide_eq_true (by first | (with_reducible assumption) | assumption)
           obtain ⟨ad249, e249, hx249_0, hx249_1, hx249_2⟩ := at_T66 HR0_0.out x19_1 p249 q249
           cases e249
           replace hx249_0 := (HB.out.cell (World.block_lt_of_cell? w _ hx249_0)).trans hx249_0
           replace hx249_1 := (HB.out.cell (World.block_lt_of_cell? w _ hx249_1)).trans hx249_1
           replace hx249_2 := (HB.out.cell (World.block_lt_of_cell? w _ hx249_2)).trans hx249_2
           replace p249 := eq_true p249
           replace q249 := eq_true q249
           try go_wp2_with (first | ((with_reducible refine gate_dst (N := 8) rfl ?_); refine box_event rfl (N := 8) rfl (cs := #[.string (⟨#[]⟩ : ByteArray), .string (⟨#[]⟩ : ByteArray), .int .i64 0]) (t := 66) zrun ?_; intro gb250 hg w42 hbox hb; have BK250 := am (hbox); have GW250 := zge hg (zb3 HB.out GE242.out GE243.out GE248.out); have GE250 := zge hg (zb3 HB.out GE242.out GE243.out GE248.out); obtain ⟨NB242_250, NB250_242⟩ := zne hg BK242; obtain ⟨NB243_250, NB250_243⟩ := zne hg BK243; obtain ⟨NB248_250, NB250_248⟩ := zne hg BK248; replace HO_249000 := am (Kd.R_below (Kd.R_elderB (rx HO_249000.out) gb250 (Nat.le_of_eq hg.symm)) hb); replace BK242 := zk hb BK242; replace BK243 := zk hb BK243; replace BK248 := zk hb BK248; replace HB := zs3 hb HB GE242 GE243 GE248; clear hb hbox hg; obtain ⟨hnb43, hnc43⟩ := zn2 NB250_242; obtain ⟨hnb44, hnc44⟩ := zn2 NB250_243; obtain ⟨hnb45, hnc45⟩ := zn2 NB250_248; obtain ⟨hcz46_0, hcz46_1, hcz46_2, hfz46_0, hfz46_1, hfz46_2⟩ := zc3 BK250.out))
           have n0_ : Aside0 (Kd.R k66 66 (((w42.setCell ⟨gb250, 0, none⟩ (.string ((rd_T66 l0_0 x19_1).f0))).setCell ⟨gb250, 1, none⟩ (.string ((rd_T66 l0_0 x19_1).f1))).setCell ⟨gb250, 2, none⟩ (.int .i64 ((rd_T66 l0_0 x19_1).f2))) w.heap.size (fun k_ => k_ ≠ gb250) u249000 x249000_1) := ⟨rx (Kd.R_mono (Kd.R_far (p := ⟨gb250, 2, none⟩) (Kd.R_far (p := ⟨gb250, 1, none⟩) (Kd.R_far (p := ⟨gb250, 0, none⟩) (Kd.R_mono HO_249000.out (fun k_ hk => (⟨hk, hk.2⟩ : _ ∧ k_ ≠ gb250))) (fun _ hk => hk.2) (.string ((rd_T66 l0_0 x19_1).f0))) (fun _ hk => hk.2) (.string ((rd_T66 l0_0 x19_1).f1))) (fun _ hk => hk.2) (.int .i64 ((rd_T66 l0_0 x19_1).f2))) (fun _ hk => hk.1.2))⟩
           have n1_ : Aside0 ((((w42.setCell ⟨gb250, 0, none⟩ (.string ((rd_T66 l0_0 x19_1).f0))).setCell ⟨gb250, 1, none⟩ (.string ((rd_T66 l0_0 x19_1).f1))).setCell ⟨gb250, 2, none⟩ (.int .i64 ((rd_T66 l0_0 x19_1).f2))).heap[gb242]? = some (.cells #[.slice (some ad249) l0_0.length c0_0] 31 (0, 0))) := ⟨zf1 BK242.out NB242_250.out⟩
           have n2_ : Aside0 ((((w42.setCell ⟨gb250, 0, none⟩ (.string ((rd_T66 l0_0 x19_1).f0))).setCell ⟨gb250, 1, none⟩ (.string ((rd_T66 l0_0 x19_1).f1))).setCell ⟨gb250, 2, none⟩ (.int .i64 ((rd_T66 l0_0 x19_1).f2))).heap[gb243]? = some (.cells #[.slice none 0 0] 31 (0, 0))) := ⟨zf1 BK243.out NB243_250.out⟩
           have n3_ : Aside0 ((((w42.setCell ⟨gb250, 0, none⟩ (.string ((rd_T66 l0_0 x19_1).f0))).setCell ⟨gb250, 1, none⟩ (.string ((rd_T66 l0_0 x19_1).f1))).setCell ⟨gb250, 2, none⟩ (.int .i64 ((rd_T66 l0_0 x19_1).f2))).heap[gb248]? = some (.cells #[u249000] 31 (0, 0))) := ⟨zf1 BK248.out NB248_250.out⟩
           have n4_ : Aside0 ((((w42.setCell ⟨gb250, 0, none⟩ (.string ((rd_T66 l0_0 x19_1).f0))).setCell ⟨gb250, 1, none⟩ (.string ((rd_T66 l0_0 x19_1).f1))).setCell ⟨gb250, 2, none⟩ (.int .i64 ((rd_T66 l0_0 x19_1).f2))).heap[gb250]? = some (.cells #[.string ((rd_T66 l0_0 x19_1).f0), .string ((rd_T66 l0_0 x19_1).f1), .int .i64 ((rd_T66 l0_0 x19_1).f2)] 66 (0, 0))) := ⟨by (with_reducible repeat (first | refine blk_drewN ?_ _ | refine blk_drew ?_ | refine blk_alloc ?_ _)); refine blk_put (cs := #[.string ((rd_T66 l0_0 x19_1).f0), .string ((rd_T66 l0_0 x19_1).f1), .int .i64 0]) ?_ 2 _ rfl; (with_reducible repeat (first | refine blk_drewN ?_ _ | refine blk_drew ?_ | refine blk_alloc ?_ _)); refine blk_put (cs := #[.string ((rd_T66 l0_0 x19_1).f0), .string (⟨#[]⟩ : ByteArray), .int .i64 0]) ?_ 1 _ rfl; (with_reducible repeat (first | refine blk_drewN ?_ _ | refine blk_drew ?_ | refine blk_alloc ?_ _)); refine blk_put (cs := #[.string (⟨#[]⟩ : ByteArray), .string (⟨#[]⟩ : ByteArray), .int .i64 0]) ?_ 0 _ rfl; (with_reducible repeat (first | refine blk_drewN ?_ _ | refine blk_drew ?_ | refine blk_alloc ?_ _)); exact BK250.out⟩
           have n5_ : Aside0 (Below w.heap.size w (((w42.setCell ⟨gb250, 0, none⟩ (.string ((rd_T66 l0_0 x19_1).f0))).setCell ⟨gb250, 1, none⟩ (.string ((rd_T66 l0_0 x19_1).f1))).setCell ⟨gb250, 2, none⟩ (.int .i64 ((rd_T66 l0_0 x19_1).f2)))) := ⟨zb4 HB.out GE242.out GE243.out GE248.out GE250.out⟩
           generalize (((w42.setCell ⟨gb250, 0, none⟩ (.string ((rd_T66 l0_0 x19_1).f0))).setCell ⟨gb250, 1, none⟩ (.string ((rd_T66 l0_0 x19_1).f1))).setCell ⟨gb250, 2, none⟩ (.int .i64 ((rd_T66 l0_0 x19_1).f2))) = w47 at n0_ n1_ n2_ n3_ n4_ n5_ ⊢
           have HO_249000 := n0_
           have BK242 := n1_
           have BK243 := n2_
           have BK248 := n3_
           have BK250 := n4_
           have HB := n5_
           clear n0_ n1_ n2_ n3_ n4_ n5_
           replace HO_249000 := am (Kd.R_drew HO_249000.out)
           replace BK242 := am (blk_drew BK242.out)
           replace BK243 := am (blk_drew BK243.out)
           replace BK248 := am (blk_drew BK248.out)
           replace BK250 := am (blk_drew BK250.out)
           replace HB := am (below_drew1 HB.out)
           have p41 : 0 ≤ (x19_1 : Int) := of_decide_eq_true (by first | (with_reducible assumption) | assumption)
           have q41 : (x19_1 : Int) < ((x249000_1.length : Int) : Int) := of_decide_eq_true (by first | (with_reducible assumption) | assumption)
           obtain ⟨go41, co41, eo41, gb41, gl41, cl41, HG41⟩ := Kd.R_form HO_249000.out (by omega)
           (first | cases eo41 | (injection eo41 with ea_ en_ ec_; (first | subst ea_ | (injection ea_ with ea_; subst ea_)); subst ec_; clear en_))
           have GB41 := Aside0.mk gb41
           have GG41 := Aside0.mk HG41
           clear gb41 gl41 HG41
           obtain ⟨ce41, hcl41, hM41, hcc41, hfr41⟩ := Kd.R_elem HO_249000.out z66 (x19_1 : Int) p41 q41
           obtain rfl := k66_openM hM41
           have hx41_0 : World.cell? _ ⟨go41, (x19_1 : Int).toNat * 3, none⟩ = some (.string ((rd_T66 x249000_1 x19_1).f0)) := hcc41 0 _ rfl
           have hx41_1 : World.cell? _ ⟨go41, (x19_1 : Int).toNat * 3 + 1, none⟩ = some (.string ((rd_T66 x249000_1 x19_1).f1)) := hcc41 1 _ rfl
           have hx41_2 : World.cell? _ ⟨go41, (x19_1 : Int).toNat * 3 + 2, none⟩ = some (.int .i64 ((rd_T66 x249000_1 x19_1).f2)) := hcc41 2 _ rfl
           have hf41_0 : World.frozen? _ ⟨go41, (x19_1 : Int).toNat * 3, none⟩ = false := hfr41 0
           have hf41_1 : World.frozen? _ ⟨go41, (x19_1 : Int).toNat * 3 + 1, none⟩ = false := hfr41 1
           have hf41_2 : World.frozen? _ ⟨go41, (x19_1 : Int).toNat * 3 + 2, none⟩ = false := hfr41 2
           clear hcl41 hcc41 hfr41 hM41
           replace p41 := eq_true p41
           replace q41 := eq_true q41
           obtain ⟨ce49, hcl49, hM49, hcc49, hfr49⟩ := Kd.R_elem HO_249000.out z66 (x19_1 : Int) (of_decide_eq_true (by first | (with_reducible assumption) | assumption)) (by have h_ : (x19_1 : Int) < ((x249000_1.length : Int) : Int) := of_decide_eq_true (by first | (with_reducible assumption) | assumption); first | exact h_ | (have e_ := (Kd.R_reads' HO_249000.out).1; omega) | simpa using h_)
           obtain rfl := k66_openM hM49
           have HP49 := (Kd.R_seg HO_249000.out (x19_1 : Int) (of_decide_eq_true (by first | (with_reducible assumption) | assumption)) (by have h_ : (x19_1 : Int) < ((x249000_1.length : Int) : Int) := of_decide_eq_true (by first | (with_reducible assumption) | assumption); first | exact h_ | (have e_ := (Kd.R_reads' HO_249000.out).1; omega) | simpa using h_) (seg := [.string ((rd_T66 l0_0 x19_1).f0), .string (((rd_T66 l0_0 x19_1).f1).extract 0 (((rd_T66 l0_0 x19_1).f2) : Int).toNat), .int .i64 ((rd_T66 l0_0 x19_1).f2)]) (j := 0) hcl49 hcc49 (show 3 ≤ 3 from by decide) (x' := (⟨(rd_T66 l0_0 x19_1).f0, ((rd_T66 l0_0 x19_1).f1).extract 0 (((rd_T66 l0_0 x19_1).f2) : Int).toNat, (rd_T66 l0_0 x19_1).f2⟩ : S66)) (k66_mkM _ _ _ (⟨(rd_T66 l0_0 x19_1).f0, ((rd_T66 l0_0 x19_1).f1).extract 0 (((rd_T66 l0_0 x19_1).f2) : Int).toNat, (rd_T66 l0_0 x19_1).f2⟩ : S66) ) (fun _ hk => hk)).1
           rw [← Ny253.out] at HP49
           have HQ49 := Aside0.mk HP49
           clear hcl49 hcc49 hfr49 hM49 HP49
           refine start_ (n := 13) (S := fun w' => w'.cell? ⟨gb248, 0, none⟩ = some (.slice (some ⟨go41, 0, none⟩) x249000_1.length co41) ∧ w'.cell? ⟨gb250, 0, none⟩ = some (.string ((rd_T66 l0_0 x19_1).f0)) ∧ w'.cell? ⟨gb250, 1, none⟩ = some (.string ((rd_T66 l0_0 x19_1).f1)) ∧ w'.cell? ⟨gb250, 2, none⟩ = some (.int .i64 ((rd_T66 l0_0 x19_1).f2))) (ds := [12]) #[false, false, false, false, false, false, false, false, false, false, false, false, false] (by kernel_rfl) rfl rfl ⟨ct BK248.out 0, ct BK250.out 0, ct BK250.out 1, ct BK250.out 2⟩ (fun hHeld => ?_); refine with_tabW impl_LoseDisk.tab10 impl_LoseDisk.bits10 (fun HT_ HW_ => ?_)
           generalize w47.drew = w48 at HO_249000 BK242 BK243 BK248 BK250 HB GG41 HQ49 hf41_0 hf41_1 hf41_2 hx41_0 hx41_1 hx41_2 hHeld ⊢
           refine zpu 0 40 #[true, false, false, false, false, false, false, false, false, false, false, false, false] HT_ ?_
           refine zpu 2 42 #[true, false, true, false, false, false, false, false, false, false, false, false, false] HT_ ?_
           refine zpu 3 43 #[true, false, true, true, false, false, false, false, false, false, false, false, false] HT_ ?_
           refine zpu 5 45 #[true, false, true, true, false, true, false, false, false, false, false, false, false] HT_ ?_
           refine zpu 7 47 #[true, false, true, true, false, true, false, true, false, false, false, false, false] HT_ ?_
           refine zpu 9 49 #[true, false, true, true, false, true, false, true, false, true, false, false, false] HT_ ?_
           refine ztk4 1 41 #[true, true, true, true, false, true, false, true, false, true, false, false, false] HT_ HW_ hHeld ?_
           refine ztk4 4 44 #[true, true, true, true, true, true, false, true, false, true, false, false, false] HT_ HW_ hHeld ?_
           refine ztk4 6 46 #[true, true, true, true, true, true, true, true, false, true, false, false, false] HT_ HW_ hHeld ?_
           refine zpu 8 48 #[true, true, true, true, true, true, true, true, true, true, false, false, false] HT_ ?_
           refine zpu 10 50 #[true, true, true, true, true, true, true, true, true, true, true, false, false] HT_ ?_
           refine zpu 11 51 #[true, true, true, true, true, true, true, true, true, true, true, true, false] HT_ ?_
           refine last_ (i := 12) (N := none) #[true, true, true, true, true, true, true, true, true, true, true, true, true] rfl rfl (one_of HT_.out (by kernel_rfl)) (by decide) (fun K hK => ?_)
           refine skip_ (w1 := ?_) (by rfl) rfl ?_ ?_
           rotate_left
           ·go_simp
            rfl
           refine hK.out _ _ ?_
           clear hK K
           refine zdn HT_ ?_
           try go_wp2
           go_roundg k1
           case measure => have := HK1.out; omega
           case rel => exact ⟨(wrap64 (x19_1 + 1)), (y253), (.slice (some ⟨go41, 0, none⟩) x249000_1.length co41), (by first | rfl | (simp; done) | (simp [*]; done)), H', ⟨by have := HK1.out; omega⟩, ⟨rx (Kd.R_mono HQ49.out (fun _ hk => trivial))⟩, ⟨by (with_reducible repeat (first | refine blk_drewN ?_ _ | refine blk_drew ?_ | refine blk_alloc ?_ _)); refine blk_far ?_ (by have h_ := Kd.R_ne HO_249000.out BK242.out (by decide); intro e_; exact h_ (by rw [e_]; rfl)) _; (with_reducible repeat (first | refine blk_drewN ?_ _ | refine blk_drew ?_ | refine blk_alloc ?_ _)); refine blk_far ?_ (by have h_ := Kd.R_ne HO_249000.out BK242.out (by decide); intro e_; exact h_ (by rw [e_]; rfl)) _; (with_reducible repeat (first | refine blk_drewN ?_ _ | refine blk_drew ?_ | refine blk_alloc ?_ _)); refine blk_far ?_ (by have h_ := Kd.R_ne HO_249000.out BK242.out (by decide); intro e_; exact h_ (by rw [e_]; rfl)) _; (with_reducible repeat (first | refine blk_drewN ?_ _ | refine blk_drew ?_ | refine blk_alloc ?_ _)); exact BK242.out⟩, ⟨by (with_reducible repeat (first | refine blk_drewN ?_ _ | refine blk_drew ?_ | refine blk_alloc ?_ _)); refine blk_far ?_ (by have h_ := Kd.R_ne HO_249000.out BK243.out (by decide); intro e_; exact h_ (by rw [e_]; rfl)) _; (with_reducible repeat (first | refine blk_drewN ?_ _ | refine blk_drew ?_ | refine blk_alloc ?_ _)); refine blk_far ?_ (by have h_ := Kd.R_ne HO_249000.out BK243.out (by decide); intro e_; exact h_ (by rw [e_]; rfl)) _; (with_reducible repeat (first | refine blk_drewN ?_ _ | refine blk_drew ?_ | refine blk_alloc ?_ _)); refine blk_far ?_ (by have h_ := Kd.R_ne HO_249000.out BK243.out (by decide); intro e_; exact h_ (by rw [e_]; rfl)) _; (with_reducible repeat (first | refine blk_drewN ?_ _ | refine blk_drew ?_ | refine blk_alloc ?_ _)); exact BK243.out⟩, ⟨by (with_reducible repeat (first | refine blk_drewN ?_ _ | refine blk_drew ?_ | refine blk_alloc ?_ _)); refine blk_far ?_ (by have h_ := Kd.R_ne HO_249000.out BK248.out (by decide); intro e_; exact h_ (by rw [e_]; rfl)) _; (with_reducible repeat (first | refine blk_drewN ?_ _ | refine blk_drew ?_ | refine blk_alloc ?_ _)); refine blk_far ?_ (by have h_ := Kd.R_ne HO_249000.out BK248.out (by decide); intro e_; exact h_ (by rw [e_]; rfl)) _; (with_reducible repeat (first | refine blk_drewN ?_ _ | refine blk_drew ?_ | refine blk_alloc ?_ _)); refine blk_far ?_ (by have h_ := Kd.R_ne HO_249000.out BK248.out (by decide); intro e_; exact h_ (by rw [e_]; rfl)) _; (with_reducible repeat (first | refine blk_drewN ?_ _ | refine blk_drew ?_ | refine blk_alloc ?_ _)); exact BK248.out⟩, ⟨zb7 HB.out GB41.out GB41.out GB41.out GE242.out GE243.out GE248.out GE250.out⟩⟩
          ·rw [if_neg c40] at H
           exact absurd H (by simp)
         ·rw [if_neg c39] at H
          exact absurd H (by simp)
        ·rw [if_neg c38] at H
         exact absurd H (by simp)
      ·rw [if_neg c21] at H
       exact absurd H (by simp)
     ·rw [if_neg c20] at H
      exact absurd H (by simp)
    ·rw [if_neg c19] at H
     have c19b0 : decide (x19_1 < (l0_0.length : Int)) = false := decide_eq_false c19
     have c19b1 : decide ((l0_0.length : Int) ≤ x19_1) = true := decide_eq_true (by omega)
     clear c19
     simp only [Option.some.injEq, Prod.mk.injEq] at H
     obtain ⟨rfl, rfl⟩ := H
     obtain ⟨hnb50, hnc50⟩ := zn2 NB248_242
     obtain ⟨hnb51, hnc51⟩ := zn2 NB248_243
     obtain ⟨hcz52_0, hfz52_0⟩ := zc1 BK248.out
     obtain ⟨Ao53, co53, eo53⟩ := Kd.R_slice HO_249000.out
     subst eo53
     obtain ⟨hnb54, hnc54⟩ := zn2 NB243_242
     obtain ⟨hcz55_0, hfz55_0⟩ := zc1 BK243.out
     go_wp2
     refine bodyPost_ret (results_ct rfl _ _ gb243 31 #[.slice Ao53 x249000_1.length co53] (0, 0) _ rfl (by (with_reducible repeat (first | refine blk_drewN ?_ _ | refine blk_drew ?_ | refine blk_alloc ?_ _)); refine blk_put (cs := #[.slice none 0 0]) ?_ 0 _ rfl; (with_reducible repeat (first | refine blk_drewN ?_ _ | refine blk_drew ?_ | refine blk_alloc ?_ _)); exact BK243.out) Try.underlying31 rfl (by kernel_rfl)) rfl ?_
     exact ⟨_, by first | rfl | (simp [errW_none, errW_some] <;> rfl) | (simp [*, errW_none, errW_some] <;> rfl), rx (Kd.R_mono (Kd.R_far (p := ⟨gb243, 0, none⟩) (Kd.R_types HO_249000.out BK243.out (by decide)) (fun _ hk => hk.2) (.slice Ao53 x249000_1.length co53)) (fun _ hk => trivial)), zb3 HB.out GE242.out GE243.out GE248.out⟩
 ·replace c4 := Bool.eq_false_iff.mpr c4
  subst c4
  have H1 : (some (([] : List (S66)), false)) = some (r1, r2) := by rw [if_neg (show ¬ (false = true) by decide)] at H; exact H
  clear H
  have H := H1
  clear H1
  simp only [Option.some.injEq, Prod.mk.injEq] at H
  obtain ⟨rfl, rfl⟩ := H
  go_enter Try.func55, Try.ntmps55
  go_wp2_with (first | ((with_reducible refine gate_dst (N := 2) rfl ?_); refine box_event rfl (N := 2) rfl (cs := #[.slice A0_0 l0_0.length c0_0]) (t := 31) zrun ?_; intro gb242 hg w56 hbox hb; have BK242 := am (hbox); have GW242 := zge hg (zb0 HB.out); have GE242 := zge hg (zb0 HB.out); replace HB := zs0 hb HB; clear hb hbox hg) | ((with_reducible refine gate_dst (N := 4) rfl ?_); refine box_event rfl (N := 4) rfl (cs := #[.slice none 0 0]) (t := 31) zrun ?_; intro gb243 hg w57 hbox hb; have BK243 := am (hbox); have GW243 := zge hg (zb1 HB.out GE242.out); have GE243 := zge hg (zb1 HB.out GE242.out); obtain ⟨NB242_243, NB243_242⟩ := zne hg BK242; replace BK242 := zk hb BK242; replace HB := zs1 hb HB GE242; clear hb hbox hg; obtain ⟨hnb58, hnc58⟩ := zn2 NB242_243; obtain ⟨hcz59_0, hfz59_0⟩ := zc1 BK242.out) | ((with_reducible refine gate_callee (f := 39) rfl ?_); refine goesL_ (some 11) rfl rfl Try.func39 (by kernel_rfl) rfl #[.agg #[.slice A0_0 l0_0.length c0_0]] rfl zr ?_; (with_reducible refine (impl_DiskOk.calls k _ _ l0_0 false _ ?side1 ?side2 A3.out).mono ?_); (case side1 => repeat (first | exact (Kd.C_below HR0_0.out HB.out) | (with_reducible refine Kd.C_alloc ?_ _) | (with_reducible refine Kd.C_drewN ?_ _) | (with_reducible refine Kd.C_drew ?_))); (case side2 => exact HC0_0.out); rintro e w60 ⟨rfl, hb⟩; refine ⟨_, rfl, ?_⟩; replace BK242 := zk hb BK242; replace BK243 := zk hb BK243; replace HB := zs2 hb HB GE242 GE243; clear hb; obtain ⟨hcz61_0, hfz61_0⟩ := zc1 BK243.out))
  refine bodyPost_ret (results_ct rfl _ _ gb243 31 #[.slice none 0 0] (0, 0) _ rfl (by (with_reducible repeat (first | refine blk_drewN ?_ _ | refine blk_drew ?_ | refine blk_alloc ?_ _)); refine blk_put (cs := #[.slice none 0 0]) ?_ 0 _ rfl; (with_reducible repeat (first | refine blk_drewN ?_ _ | refine blk_drew ?_ | refine blk_alloc ?_ _)); exact BK243.out) Try.underlying31 rfl (by kernel_rfl)) rfl ?_
  exact ⟨_, by first | rfl | (simp [errW_none, errW_some] <;> rfl) | (simp [*, errW_none, errW_some] <;> rfl), by first | exact Kd.R_nil _ _ _ _ _ | exact Kd.N_nil _ _ _ _ _ | exact Kd.V_nil _ _ _ _ _ | exact Kd.Q_nil _ _ _ _ _ | exact Kd.S_nil _ _ _ _ _, zb2 HB.out GE242.out GE243.out⟩

end Go.Proofs.Ytklbkkoojkmjbaa.QFnExactCutActs
