/- Written by the kit's print.py, called by our own print2.sh with one import more; not by print.sh. -/
import Derived.Test.YtklbkkoojkmjbaaQFnActsx0
import Derived.Test.YtklbkkoojkmjbaaQFnActsx2
import Derived.Test.YtklbkkoojkmjbaaQFnActsx4
namespace Go.Proofs.Ytklbkkoojkmjbaa.QFnActs
open Go.RowKit Go.Proofs.YtklbkkoojkmjbaaW.PrintWords Go.Proofs.YtklbkkoojkmjbaaW.PrintLast Go.Proofs.YtklbkkoojkmjbaaW.PrintMore
attribute [local go_sem] max2_int min2_int max_two min_two max_three min_three max_four min_four   -- for this text's walks alone
open Go.Proofs.Ytklbkkoojkmjbaa.Short
set_option linter.unusedVariables false
set_option linter.unusedSimpArgs false

/-! ### impl_DoActs: function 19 -/
def impl_DoActs.l0 : Nat → List (S35) → List (S35) → Int → Int → List (S66) → Option ((List (S66)) × Int)
 | 0, _, _, _, _, _ => none
 | k + 1, x1, x13, x14, x15, x232000 => if x15 < x14 then (if 0 ≤ x15 then (if x15 < (x13.length : Int) then ((impl_DoAct.f k x232000 ((rd_T35 x13 x15).f0) ((rd_T35 x13 x15).f1) ((rd_T35 x13 x15).f2) ((rd_T35 x13 x15).f3)).bind fun bt234 => (if bt234.2 = true then (impl_DoActs.l0 k x1 x13 x14 (wrap64 (x15 + 1)) bt234.1) else (some (x232000, x15)))) else (none)) else (none)) else (some (x232000, (x1.length : Int)))
def impl_DoActs.f (k : Nat) (l0_0 : List (S66)) (l1 : List (S35)) : Option ((List (S66)) × Int) := (impl_copyDisk.f l0_0).bind fun t228 => (impl_DoActs.l0 k l1 l1 (l1.length : Int) 0 t228)
theorem impl_DoActs.mono_l : ∀ k, (∀ y0 y1 y2 y3 y4, LeO (impl_DoActs.l0 k y0 y1 y2 y3 y4) (impl_DoActs.l0 (k + 1) y0 y1 y2 y3 y4))
 | 0 => fun _ _ _ _ _ r h => by simp [impl_DoActs.l0] at h
 | k + 1 => by
  have ih0 := impl_DoActs.mono_l k
  ·intro y0 y1 y2 y3 y4
   unfold impl_DoActs.l0
   repeat' first
   | (with_reducible exact ih0 _ _ _ _ _)
   | (with_reducible exact impl_DoAct.mono _ _ _ _ _ _)
   | (with_reducible exact LeO.refl _)
   | (with_reducible exact LeO.none _)
   | (with_reducible refine LeO.ite ?_ ?_)
   | (with_reducible refine LeO.bind ?_ (fun _ => ?_))
   | exact ih0 _ _ _ _ _
   | exact impl_DoAct.mono _ _ _ _ _ _
   | exact LeO.none _
   | refine LeO.ite ?_ ?_
   | refine LeO.bind ?_ (fun _ => ?_)
theorem impl_DoActs.mono : ∀ a0 a1 k, LeO (impl_DoActs.f k a0 a1) (impl_DoActs.f (k + 1) a0 a1) := by
 intro a0 a1 k
 have ih0 := impl_DoActs.mono_l k
 unfold impl_DoActs.f
 repeat' first
   | (with_reducible exact ih0 _ _ _ _ _)
   | (with_reducible exact impl_DoAct.mono _ _ _ _ _ _)
   | (with_reducible exact LeO.refl _)
   | (with_reducible exact LeO.none _)
   | (with_reducible refine LeO.ite ?_ ?_)
   | (with_reducible refine LeO.bind ?_ (fun _ => ?_))
   | exact ih0 _ _ _ _ _
   | exact impl_DoAct.mono _ _ _ _ _ _
   | exact LeO.none _
   | refine LeO.ite ?_ ?_
   | refine LeO.bind ?_ (fun _ => ?_)
set_option maxHeartbeats 8000000 in
set_option maxRecDepth 100000 in
theorem impl_DoActs.calls (k : Nat) (A0_0 : Option Addr) (c0_0 : Nat) (l0_0 : List (S66)) (A1 : Option Addr) (c1 : Nat) (l1 : List (S35)) (r1 : List (S66)) (r2 : Int) (w : World) (hr0_0 : Kd.C k66 w A0_0 l0_0.length l0_0) (hc0_0 : l0_0.length ≤ c0_0) (hr1 : Kd.C k35 w A1 l1.length l1) (hc1 : l1.length ≤ c1) (h : impl_DoActs.f k l0_0 l1 = some (r1, r2)) :
  Calls Try.prog 19 #[.agg #[.slice A0_0 l0_0.length c0_0], .slice A1 l1.length c1] w fun e w' => ∃ v0_ : Value, e = .returned (.tuple #[.agg #[v0_], .int .i64 r2]) ∧ Kd.R k66 66 w' w.heap.size (fun _ => True) v0_ r1 ∧ Below w.heap.size w w' := by
 have hu31 := Try.underlying31
 have hu35 := Try.underlying35
 have HR0_0 := Aside0.mk hr0_0
 have HC0_0 := Aside0.mk hc0_0
 clear hr0_0 hc0_0
 have HR1 := Aside0.mk hr1
 have HC1 := Aside0.mk hc1
 clear hr1 hc1
 have HB := Aside0.mk (Below.refl w.heap.size w)
 have H : ((impl_copyDisk.f l0_0).bind fun t228 => (impl_DoActs.l0 k l1 l1 (l1.length : Int) 0 t228)) = some (r1, r2) := h
 clear h
 replace H := Option.bind_eq_some_iff.mp H
 obtain ⟨t228, A30, H⟩ := H
 try dsimp only at H
 have A3 := Aside0.mk A30
 clear A30
 have H' := Aside0.mk H
 clear H
 go_enter Try.func19, Try.ntmps19
 go_wp2_with (first | ((with_reducible refine gate_dst (N := 2) rfl ?_); refine box_event rfl (N := 2) rfl (cs := #[.slice A0_0 l0_0.length c0_0]) (t := 31) zrun ?_; intro gb226 hg w4 hbox hb; have BK226 := am (hbox); have GE226 := zge hg (zb0 HB.out); replace HB := zs0 hb HB; clear hb hbox hg) | ((with_reducible refine gate_dst (N := 4) rfl ?_); refine box_event rfl (N := 4) rfl (cs := #[.slice none 0 0]) (t := 31) zrun ?_; intro gb227 hg w5 hbox hb; have BK227 := am (hbox); have GE227 := zge hg (zb1 HB.out GE226.out); obtain ⟨NB226_227, NB227_226⟩ := zne hg BK226; replace BK226 := zk hb BK226; replace HB := zs1 hb HB GE226; clear hb hbox hg; obtain ⟨hnb6, hnc6⟩ := zn2 NB226_227; obtain ⟨hcz7_0, hfz7_0⟩ := zc1 BK226.out) | ((with_reducible refine gate_callee (f := 46) rfl ?_); refine goesL_ (some 12) rfl rfl Try.func46 (by kernel_rfl) rfl #[.agg #[.slice A0_0 l0_0.length c0_0]] rfl zr ?_; (with_reducible refine (impl_copyDisk.calls _ _ l0_0 t228 _ ?side1 ?side2 A3.out).mono ?_); (case side1 => repeat (first | exact (Kd.C_below HR0_0.out HB.out) | (with_reducible refine Kd.C_alloc ?_ _) | (with_reducible refine Kd.C_drewN ?_ _) | (with_reducible refine Kd.C_drew ?_))); (case side2 => exact HC0_0.out); rintro e w8 ⟨v229, rfl, ho0, hb⟩; refine ⟨_, rfl, ?_⟩; have HO230 := am (Kd.R_lower ho0 (below_size (zb2 HB.out GE226.out GE227.out))); replace BK226 := zk hb BK226; replace BK227 := zk hb BK227; replace HB := zs2 hb HB GE226 GE227; clear hb ho0) | ((with_reducible refine gate_dst (N := 6) rfl ?_); refine box_event rfl (N := 6) rfl (cs := #[.slice none 0 0]) (t := 31) zrun ?_; intro gb231 hg w9 hbox hb; have BK231 := am (hbox); have GE231 := zge hg (zb2 HB.out GE226.out GE227.out); obtain ⟨NB226_231, NB231_226⟩ := zne hg BK226; obtain ⟨NB227_231, NB231_227⟩ := zne hg BK227; replace HO230 := zo hb HO230; replace BK226 := zk hb BK226; replace BK227 := zk hb BK227; replace HB := zs2 hb HB GE226 GE227; clear hb hbox hg; obtain ⟨Ao10, co10, eo10⟩ := Kd.R_slice HO230.out; subst eo10; obtain ⟨hnb11, hnc11⟩ := zn2 NB231_226; obtain ⟨hnb12, hnc12⟩ := zn2 NB231_227; obtain ⟨hcz13_0, hfz13_0⟩ := zc1 BK231.out))
 go_loopg [15] k (fun kq v15 w' => ∃ (x15_1 : Int) (x232000_1 : List (S66)) (u232000 : Value), v15 = .int .i64 x15_1 ∧ Aside0 (impl_DoActs.l0 kq l1 l1 (l1.length : Int) x15_1 x232000_1 = some (r1, r2)) ∧ Aside0 (kq ≤ k) ∧ Aside0 (Kd.R k66 66 w' w.heap.size (fun _ => True) u232000 x232000_1) ∧ Aside0 (w'.heap[gb226]? = some (.cells #[(.slice A0_0 l0_0.length c0_0)] 31 (0, 0))) ∧ Aside0 (w'.heap[gb227]? = some (.cells #[(.slice none 0 0)] 31 (0, 0))) ∧ Aside0 (w'.heap[gb231]? = some (.cells #[u232000] 31 (0, 0))) ∧ Aside0 (Below w.heap.size w w'))
 case atStart => exact ⟨(0), (t228), (.slice Ao10 t228.length co10), (by first | rfl | (simp; done) | (simp [*]; done)), H', ⟨Nat.le_refl _⟩, ⟨rx (Kd.R_mono (Kd.R_far (p := ⟨gb231, 0, none⟩) (Kd.R_types HO230.out BK231.out (by decide)) (fun _ hk => hk.2) (.slice Ao10 t228.length co10)) (fun _ hk => trivial))⟩, ⟨zf1 BK226.out NB226_231.out⟩, ⟨zf1 BK227.out NB227_231.out⟩, ⟨by (with_reducible repeat (first | refine blk_drewN ?_ _ | refine blk_drew ?_ | refine blk_alloc ?_ _)); refine blk_put (cs := #[.slice none 0 0]) ?_ 0 _ rfl; (with_reducible repeat (first | refine blk_drewN ?_ _ | refine blk_drew ?_ | refine blk_alloc ?_ _)); exact BK231.out⟩, ⟨zb3 HB.out GE226.out GE227.out GE231.out⟩⟩
 case round =>
  clear H'
  obtain ⟨x15_1, x232000_1, u232000, rfl, HA, HK1, HO_232000, BK226, BK227, BK231, HB⟩ := hrel
  cases gk with
  | zero => exact absurd HA.out (by simp [impl_DoActs.l0])
  | succ k1 =>
   have H := HA.out
   clear HA
   simp only [impl_DoActs.l0] at H
   by_cases c14 : x15_1 < (l1.length : Int)
   ·rw [if_pos c14] at H
    have c14b0 : decide (x15_1 < (l1.length : Int)) = true := decide_eq_true c14
    have c14b1 : decide ((l1.length : Int) ≤ x15_1) = false := decide_eq_false (by omega)
    clear c14
    by_cases c15 : 0 ≤ x15_1
    ·rw [if_pos c15] at H
     have c15b0 : decide (0 ≤ x15_1) = true := decide_eq_true c15
     clear c15
     by_cases c16 : x15_1 < (l1.length : Int)
     ·rw [if_pos c16] at H
      have c16b0 : decide (x15_1 < (l1.length : Int)) = true := decide_eq_true c16
      have c16b1 : decide ((l1.length : Int) ≤ x15_1) = false := decide_eq_false (by omega)
      clear c16
      replace H := Option.bind_eq_some_iff.mp H
      obtain ⟨⟨t234, t237⟩, A170, H⟩ := H
      try dsimp only at H
      have A17 := Aside0.mk A170
      clear A170
      by_cases c18 : t237 = true
      ·subst c18
       have H1 : (impl_DoActs.l0 k1 l1 l1 (l1.length : Int) (wrap64 (x15_1 + 1)) t234) = some (r1, r2) := by rw [if_pos rfl] at H; exact H
       clear H
       have H := H1
       clear H1
       have H' := Aside0.mk H
       clear H
       have p232 : 0 ≤ (x15_1 : Int) := zpq
       have q232 : x15_1 < (l1.length : Int) := zpq
       obtain ⟨ad232, e232, hx232_0, hx232_1, hx232_2, hx232_3⟩ := at_T35 HR1.out x15_1 p232 q232
       cases e232
       replace hx232_0 := (HB.out.cell (World.block_lt_of_cell? w _ hx232_0)).trans hx232_0
       replace hx232_1 := (HB.out.cell (World.block_lt_of_cell? w _ hx232_1)).trans hx232_1
       replace hx232_2 := (HB.out.cell (World.block_lt_of_cell? w _ hx232_2)).trans hx232_2
       replace hx232_3 := (HB.out.cell (World.block_lt_of_cell? w _ hx232_3)).trans hx232_3
       replace p232 := eq_true p232
       replace q232 := eq_true q232
       go_wp2_with (first | ((with_reducible refine gate_dst (N := 8) rfl ?_); refine box_event rfl (N := 8) rfl (cs := #[.int .i64 0, .string (⟨#[]⟩ : ByteArray), .string (⟨#[]⟩ : ByteArray), .string (⟨#[]⟩ : ByteArray)]) (t := 35) zrun ?_; intro gb233 hg w19 hbox hb; have BK233 := am (hbox); have GW233 := zge hg (zb3 HB.out GE226.out GE227.out GE231.out); have GE233 := zge hg (zb3 HB.out GE226.out GE227.out GE231.out); obtain ⟨NB226_233, NB233_226⟩ := zne hg BK226; obtain ⟨NB227_233, NB233_227⟩ := zne hg BK227; obtain ⟨NB231_233, NB233_231⟩ := zne hg BK231; replace HO_232000 := zo hb HO_232000; replace BK226 := zk hb BK226; replace BK227 := zk hb BK227; replace BK231 := zk hb BK231; replace HB := zs3 hb HB GE226 GE227 GE231; clear hb hbox hg; obtain ⟨hnb20, hnc20⟩ := zn2 NB233_226; obtain ⟨hnb21, hnc21⟩ := zn2 NB233_227; obtain ⟨hnb22, hnc22⟩ := zn2 NB233_231; obtain ⟨hcz23_0, hcz23_1, hcz23_2, hcz23_3, hfz23_0, hfz23_1, hfz23_2, hfz23_3⟩ := zc4 BK233.out; obtain ⟨hnb24, hnc24⟩ := zn2 NB231_226; obtain ⟨hnb25, hnc25⟩ := zn2 NB231_227; obtain ⟨hcz26_0, hfz26_0⟩ := zc1 BK231.out; obtain ⟨Ao27, co27, eo27⟩ := Kd.R_slice HO_232000.out; subst eo27) | ((with_reducible refine gate_callee (f := 12) rfl ?_); refine goesL_ (some 23) rfl rfl Try.func12 (by kernel_rfl) rfl #[.agg #[.slice Ao27 x232000_1.length co27], .agg #[.int .i64 ((rd_T35 l1 x15_1).f0), .string ((rd_T35 l1 x15_1).f1), .string ((rd_T35 l1 x15_1).f2), .string ((rd_T35 l1 x15_1).f3)]] rfl zr ?_; (with_reducible refine (impl_DoAct.calls k1 _ _ x232000_1 ((rd_T35 l1 x15_1).f0) ((rd_T35 l1 x15_1).f1) ((rd_T35 l1 x15_1).f2) ((rd_T35 l1 x15_1).f3) t234 true _ ?side1 ?side2 A17.out).mono ?_); (case side1 => refine (Kd.R_reads' (e := 66) (base := w.heap.size) (ok := fun k_ => True) (n := x232000_1.length) (c := co27) ?_).2.2; exact (rx ((Kd.R_mono (Kd.R_far (p := ⟨gb233, 3, none⟩) (Kd.R_far (p := ⟨gb233, 2, none⟩) (Kd.R_far (p := ⟨gb233, 1, none⟩) (Kd.R_far (p := ⟨gb233, 0, none⟩) (Kd.R_types HO_232000.out BK233.out (by decide)) (fun _ hk => hk.2) (.int .i64 ((rd_T35 l1 x15_1).f0))) (fun _ hk => hk.2) (.string ((rd_T35 l1 x15_1).f1))) (fun _ hk => hk.2) (.string ((rd_T35 l1 x15_1).f2))) (fun _ hk => hk.2) (.string ((rd_T35 l1 x15_1).f3))) (fun _ h_ => h_.1))))); (case side2 => exact (Kd.R_reads' HO_232000.out).2.1); rintro e w28 ⟨v235, rfl, ho0, hb⟩; refine ⟨_, rfl, ?_⟩; have HO236 := am (Kd.R_lower (Kd.R_new' ho0 (Kd.R_lt (rx ((Kd.R_mono (Kd.R_far (p := ⟨gb233, 3, none⟩) (Kd.R_far (p := ⟨gb233, 2, none⟩) (Kd.R_far (p := ⟨gb233, 1, none⟩) (Kd.R_far (p := ⟨gb233, 0, none⟩) (Kd.R_types HO_232000.out BK233.out (by decide)) (fun _ hk => hk.2) (.int .i64 ((rd_T35 l1 x15_1).f0))) (fun _ hk => hk.2) (.string ((rd_T35 l1 x15_1).f1))) (fun _ hk => hk.2) (.string ((rd_T35 l1 x15_1).f2))) (fun _ hk => hk.2) (.string ((rd_T35 l1 x15_1).f3))) (fun _ h_ => h_.1)))))) (below_size (zb4 HB.out GE226.out GE227.out GE231.out GE233.out))); replace HO_232000 := am (Kd.R_elder' (rx ((Kd.R_mono (Kd.R_far (p := ⟨gb233, 3, none⟩) (Kd.R_far (p := ⟨gb233, 2, none⟩) (Kd.R_far (p := ⟨gb233, 1, none⟩) (Kd.R_far (p := ⟨gb233, 0, none⟩) (Kd.R_types HO_232000.out BK233.out (by decide)) (fun _ hk => hk.2) (.int .i64 ((rd_T35 l1 x15_1).f0))) (fun _ hk => hk.2) (.string ((rd_T35 l1 x15_1).f1))) (fun _ hk => hk.2) (.string ((rd_T35 l1 x15_1).f2))) (fun _ hk => hk.2) (.string ((rd_T35 l1 x15_1).f3))) (fun _ h_ => h_.1)))) (Kd.R_base ho0) hb); replace BK226 := zh1 hb BK226 NB226_233; replace BK227 := zh1 hb BK227 NB227_233; replace BK231 := zh1 hb BK231 NB231_233; replace BK233 := am (blk_below (g := gb233) (o := .cells #[.int .i64 ((rd_T35 l1 x15_1).f0), .string ((rd_T35 l1 x15_1).f1), .string ((rd_T35 l1 x15_1).f2), .string ((rd_T35 l1 x15_1).f3)] 35 (0, 0)) (zt3210 BK233.out) hb); replace HB := zs4 hb HB GE226 GE227 GE231 GE233; clear hb ho0) | ((with_reducible refine gate_dst (N := 9) rfl ?_); refine box_event rfl (N := 9) rfl (cs := #[.slice none 0 0]) (t := 31) zrun ?_; intro gb238 hg w29 hbox hb; have BK238 := am (hbox); have GW238 := zge hg (zb4 HB.out GE226.out GE227.out GE231.out GE233.out); have GE238 := zge hg (zb4 HB.out GE226.out GE227.out GE231.out GE233.out); obtain ⟨NB226_238, NB238_226⟩ := zne hg BK226; obtain ⟨NB227_238, NB238_227⟩ := zne hg BK227; obtain ⟨NB231_238, NB238_231⟩ := zne hg BK231; obtain ⟨NB233_238, NB238_233⟩ := zne hg BK233; replace HO_232000 := zo hb HO_232000; replace HO236 := zo hb HO236; replace BK226 := zk hb BK226; replace BK227 := zk hb BK227; replace BK231 := zk hb BK231; replace BK233 := zk hb BK233; replace HB := zs4 hb HB GE226 GE227 GE231 GE233; clear hb hbox hg; obtain ⟨Ao30, co30, eo30⟩ := Kd.R_slice HO236.out; subst eo30; obtain ⟨hnb31, hnc31⟩ := zn2 NB238_226; obtain ⟨hnb32, hnc32⟩ := zn2 NB238_227; obtain ⟨hnb33, hnc33⟩ := zn2 NB238_231; obtain ⟨hnb34, hnc34⟩ := zn2 NB238_233; obtain ⟨hcz35_0, hfz35_0⟩ := zc1 BK238.out; obtain ⟨hcz36_0, hfz36_0⟩ := zc1 BK231.out))
       go_roundg k1
       case measure => have := HK1.out; omega
       case rel => exact ⟨(wrap64 (x15_1 + 1)), (t234), (.slice Ao30 t234.length co30), (by first | rfl | (simp; done) | (simp [*]; done)), H', ⟨by have := HK1.out; omega⟩, ⟨rx (Kd.R_mono (Kd.R_far (p := ⟨gb231, 0, none⟩) (Kd.R_far (p := ⟨gb238, 0, none⟩) (Kd.R_types (Kd.R_types HO236.out BK238.out (by decide)) BK231.out (by decide)) (fun _ hk => hk.1.2) (.slice Ao30 t234.length co30)) (fun _ hk => hk.2) (.slice Ao30 t234.length co30)) (fun _ hk => trivial))⟩, ⟨zf2 BK226.out NB226_231.out NB226_238.out⟩, ⟨zf2 BK227.out NB227_231.out NB227_238.out⟩, ⟨by (with_reducible repeat (first | refine blk_drewN ?_ _ | refine blk_drew ?_ | refine blk_alloc ?_ _)); refine blk_put (cs := #[.slice Ao27 x232000_1.length co27]) ?_ 0 _ rfl; (with_reducible repeat (first | refine blk_drewN ?_ _ | refine blk_drew ?_ | refine blk_alloc ?_ _)); refine blk_far ?_ NB231_238.out _; (with_reducible repeat (first | refine blk_drewN ?_ _ | refine blk_drew ?_ | refine blk_alloc ?_ _)); exact BK231.out⟩, ⟨zb5 HB.out GE226.out GE227.out GE231.out GE233.out GE238.out⟩⟩
      ·replace c18 := Bool.eq_false_iff.mpr c18
       subst c18
       have H1 : (some (x232000_1, x15_1)) = some (r1, r2) := by rw [if_neg (show ¬ (false = true) by decide)] at H; exact H
       clear H
       have H := H1
       clear H1
       simp only [Option.some.injEq, Prod.mk.injEq] at H
       obtain ⟨rfl, rfl⟩ := H
       have p232 : 0 ≤ (x15_1 : Int) := zpq
       have q232 : x15_1 < (l1.length : Int) := zpq
       obtain ⟨ad232, e232, hx232_0, hx232_1, hx232_2, hx232_3⟩ := at_T35 HR1.out x15_1 p232 q232
       cases e232
       replace hx232_0 := (HB.out.cell (World.block_lt_of_cell? w _ hx232_0)).trans hx232_0
       replace hx232_1 := (HB.out.cell (World.block_lt_of_cell? w _ hx232_1)).trans hx232_1
       replace hx232_2 := (HB.out.cell (World.block_lt_of_cell? w _ hx232_2)).trans hx232_2
       replace hx232_3 := (HB.out.cell (World.block_lt_of_cell? w _ hx232_3)).trans hx232_3
       replace p232 := eq_true p232
       replace q232 := eq_true q232
       go_wp2_with (first | ((with_reducible refine gate_dst (N := 8) rfl ?_); refine box_event rfl (N := 8) rfl (cs := #[.int .i64 0, .string (⟨#[]⟩ : ByteArray), .string (⟨#[]⟩ : ByteArray), .string (⟨#[]⟩ : ByteArray)]) (t := 35) zrun ?_; intro gb233 hg w37 hbox hb; have BK233 := am (hbox); have GW233 := zge hg (zb3 HB.out GE226.out GE227.out GE231.out); have GE233 := zge hg (zb3 HB.out GE226.out GE227.out GE231.out); obtain ⟨NB226_233, NB233_226⟩ := zne hg BK226; obtain ⟨NB227_233, NB233_227⟩ := zne hg BK227; obtain ⟨NB231_233, NB233_231⟩ := zne hg BK231; replace HO_232000 := zo hb HO_232000; replace BK226 := zk hb BK226; replace BK227 := zk hb BK227; replace BK231 := zk hb BK231; replace HB := zs3 hb HB GE226 GE227 GE231; clear hb hbox hg; obtain ⟨hnb38, hnc38⟩ := zn2 NB233_226; obtain ⟨hnb39, hnc39⟩ := zn2 NB233_227; obtain ⟨hnb40, hnc40⟩ := zn2 NB233_231; obtain ⟨hcz41_0, hcz41_1, hcz41_2, hcz41_3, hfz41_0, hfz41_1, hfz41_2, hfz41_3⟩ := zc4 BK233.out; obtain ⟨hnb42, hnc42⟩ := zn2 NB231_226; obtain ⟨hnb43, hnc43⟩ := zn2 NB231_227; obtain ⟨hcz44_0, hfz44_0⟩ := zc1 BK231.out; obtain ⟨Ao45, co45, eo45⟩ := Kd.R_slice HO_232000.out; subst eo45) | ((with_reducible refine gate_callee (f := 12) rfl ?_); refine goesL_ (some 23) rfl rfl Try.func12 (by kernel_rfl) rfl #[.agg #[.slice Ao45 x232000_1.length co45], .agg #[.int .i64 ((rd_T35 l1 x15_1).f0), .string ((rd_T35 l1 x15_1).f1), .string ((rd_T35 l1 x15_1).f2), .string ((rd_T35 l1 x15_1).f3)]] rfl zr ?_; (with_reducible refine (impl_DoAct.calls k1 _ _ x232000_1 ((rd_T35 l1 x15_1).f0) ((rd_T35 l1 x15_1).f1) ((rd_T35 l1 x15_1).f2) ((rd_T35 l1 x15_1).f3) t234 false _ ?side1 ?side2 A17.out).mono ?_); (case side1 => refine (Kd.R_reads' (e := 66) (base := w.heap.size) (ok := fun k_ => True) (n := x232000_1.length) (c := co45) ?_).2.2; exact (rx ((Kd.R_mono (Kd.R_far (p := ⟨gb233, 3, none⟩) (Kd.R_far (p := ⟨gb233, 2, none⟩) (Kd.R_far (p := ⟨gb233, 1, none⟩) (Kd.R_far (p := ⟨gb233, 0, none⟩) (Kd.R_types HO_232000.out BK233.out (by decide)) (fun _ hk => hk.2) (.int .i64 ((rd_T35 l1 x15_1).f0))) (fun _ hk => hk.2) (.string ((rd_T35 l1 x15_1).f1))) (fun _ hk => hk.2) (.string ((rd_T35 l1 x15_1).f2))) (fun _ hk => hk.2) (.string ((rd_T35 l1 x15_1).f3))) (fun _ h_ => h_.1))))); (case side2 => exact (Kd.R_reads' HO_232000.out).2.1); rintro e w46 ⟨v235, rfl, ho0, hb⟩; refine ⟨_, rfl, ?_⟩; have HO236 := am (Kd.R_lower (Kd.R_new' ho0 (Kd.R_lt (rx ((Kd.R_mono (Kd.R_far (p := ⟨gb233, 3, none⟩) (Kd.R_far (p := ⟨gb233, 2, none⟩) (Kd.R_far (p := ⟨gb233, 1, none⟩) (Kd.R_far (p := ⟨gb233, 0, none⟩) (Kd.R_types HO_232000.out BK233.out (by decide)) (fun _ hk => hk.2) (.int .i64 ((rd_T35 l1 x15_1).f0))) (fun _ hk => hk.2) (.string ((rd_T35 l1 x15_1).f1))) (fun _ hk => hk.2) (.string ((rd_T35 l1 x15_1).f2))) (fun _ hk => hk.2) (.string ((rd_T35 l1 x15_1).f3))) (fun _ h_ => h_.1)))))) (below_size (zb4 HB.out GE226.out GE227.out GE231.out GE233.out))); replace HO_232000 := am (Kd.R_elder' (rx ((Kd.R_mono (Kd.R_far (p := ⟨gb233, 3, none⟩) (Kd.R_far (p := ⟨gb233, 2, none⟩) (Kd.R_far (p := ⟨gb233, 1, none⟩) (Kd.R_far (p := ⟨gb233, 0, none⟩) (Kd.R_types HO_232000.out BK233.out (by decide)) (fun _ hk => hk.2) (.int .i64 ((rd_T35 l1 x15_1).f0))) (fun _ hk => hk.2) (.string ((rd_T35 l1 x15_1).f1))) (fun _ hk => hk.2) (.string ((rd_T35 l1 x15_1).f2))) (fun _ hk => hk.2) (.string ((rd_T35 l1 x15_1).f3))) (fun _ h_ => h_.1)))) (Kd.R_base ho0) hb); replace BK226 := zh1 hb BK226 NB226_233; replace BK227 := zh1 hb BK227 NB227_233; replace BK231 := zh1 hb BK231 NB231_233; replace BK233 := am (blk_below (g := gb233) (o := .cells #[.int .i64 ((rd_T35 l1 x15_1).f0), .string ((rd_T35 l1 x15_1).f1), .string ((rd_T35 l1 x15_1).f2), .string ((rd_T35 l1 x15_1).f3)] 35 (0, 0)) (zt3210 BK233.out) hb); replace HB := zs4 hb HB GE226 GE227 GE231 GE233; clear hb ho0) | ((with_reducible refine gate_dst (N := 9) rfl ?_); refine box_event rfl (N := 9) rfl (cs := #[.slice none 0 0]) (t := 31) zrun ?_; intro gb238 hg w47 hbox hb; have BK238 := am (hbox); have GW238 := zge hg (zb4 HB.out GE226.out GE227.out GE231.out GE233.out); have GE238 := zge hg (zb4 HB.out GE226.out GE227.out GE231.out GE233.out); obtain ⟨NB226_238, NB238_226⟩ := zne hg BK226; obtain ⟨NB227_238, NB238_227⟩ := zne hg BK227; obtain ⟨NB231_238, NB238_231⟩ := zne hg BK231; obtain ⟨NB233_238, NB238_233⟩ := zne hg BK233; replace HO_232000 := zo hb HO_232000; replace HO236 := zo hb HO236; replace BK226 := zk hb BK226; replace BK227 := zk hb BK227; replace BK231 := zk hb BK231; replace BK233 := zk hb BK233; replace HB := zs4 hb HB GE226 GE227 GE231 GE233; clear hb hbox hg; obtain ⟨Ao48, co48, eo48⟩ := Kd.R_slice HO236.out; subst eo48; obtain ⟨hnb49, hnc49⟩ := zn2 NB238_226; obtain ⟨hnb50, hnc50⟩ := zn2 NB238_227; obtain ⟨hnb51, hnc51⟩ := zn2 NB238_231; obtain ⟨hnb52, hnc52⟩ := zn2 NB238_233; obtain ⟨hcz53_0, hfz53_0⟩ := zc1 BK238.out; obtain ⟨hcz54_0, hfz54_0⟩ := zc1 BK231.out; obtain ⟨hnb55, hnc55⟩ := zn2 NB227_226; obtain ⟨hcz56_0, hfz56_0⟩ := zc1 BK227.out))
       refine bodyPost_ret (results_ct rfl _ _ gb227 31 #[.slice Ao45 x232000_1.length co45] (0, 0) _ rfl (zp1 BK227.out NB227_238.out) Try.underlying31 rfl (by kernel_rfl)) rfl ?_
       exact ⟨_, by first | rfl | (simp [errW_none, errW_some] <;> rfl) | (simp [*, errW_none, errW_some] <;> rfl), rx (Kd.R_mono (Kd.R_far (p := ⟨gb227, 0, none⟩) (Kd.R_far (p := ⟨gb238, 0, none⟩) (Kd.R_types (Kd.R_types HO_232000.out BK238.out (by decide)) BK227.out (by decide)) (fun _ hk => hk.1.2) (.slice Ao48 t234.length co48)) (fun _ hk => hk.2) (.slice Ao45 x232000_1.length co45)) (fun _ hk => trivial)), zb5 HB.out GE226.out GE227.out GE231.out GE233.out GE238.out⟩
     ·rw [if_neg c16] at H
      exact absurd H (by simp)
    ·rw [if_neg c15] at H
     exact absurd H (by simp)
   ·rw [if_neg c14] at H
    have c14b0 : decide (x15_1 < (l1.length : Int)) = false := decide_eq_false c14
    have c14b1 : decide ((l1.length : Int) ≤ x15_1) = true := decide_eq_true (by omega)
    clear c14
    simp only [Option.some.injEq, Prod.mk.injEq] at H
    obtain ⟨rfl, rfl⟩ := H
    obtain ⟨hnb57, hnc57⟩ := zn2 NB231_226
    obtain ⟨hnb58, hnc58⟩ := zn2 NB231_227
    obtain ⟨hcz59_0, hfz59_0⟩ := zc1 BK231.out
    obtain ⟨Ao60, co60, eo60⟩ := Kd.R_slice HO_232000.out
    subst eo60
    obtain ⟨hnb61, hnc61⟩ := zn2 NB227_226
    obtain ⟨hcz62_0, hfz62_0⟩ := zc1 BK227.out
    go_wp2
    refine bodyPost_ret (results_ct rfl _ _ gb227 31 #[.slice Ao60 x232000_1.length co60] (0, 0) _ rfl (zp0 BK227.out) Try.underlying31 rfl (by kernel_rfl)) rfl ?_
    exact ⟨_, by first | rfl | (simp [errW_none, errW_some] <;> rfl) | (simp [*, errW_none, errW_some] <;> rfl), rx (Kd.R_mono (Kd.R_far (p := ⟨gb227, 0, none⟩) (Kd.R_types HO_232000.out BK227.out (by decide)) (fun _ hk => hk.2) (.slice Ao60 x232000_1.length co60)) (fun _ hk => trivial)), zb3 HB.out GE226.out GE227.out GE231.out⟩

/-! ### laws_big: function 22 -/
def laws_big.f (l0 : List Int) : Option (Bool) := some (decide ((l0.length : Int) > 1048576))
set_option maxHeartbeats 8000000 in
set_option maxRecDepth 100000 in
theorem laws_big.calls (A0 : Option Addr) (c0 : Nat) (l0 : List Int) (r : Bool) (w : World) (hr0 : Kd.C (Kd.int .u8) w A0 l0.length l0) (hc0 : l0.length ≤ c0) (h : laws_big.f l0 = some r) :
  Calls Try.prog 22 #[.slice A0 l0.length c0] w fun e w' => e = .returned (.bool r) ∧ Drawn0 w w' := by
 have HR0 := Aside0.mk hr0
 have HC0 := Aside0.mk hc0
 clear hr0 hc0
 have H : (some (decide ((l0.length : Int) > 1048576))) = some r := h
 clear h
 obtain rfl := Option.some.inj H
 go_enter Try.func22, Try.ntmps22
 go_wp2
 go_ret
 exact ⟨by first | rfl | (simp; done) | (simp [*]; done), by repeat (first | exact Drawn0.refl _ | apply Drawn0.step)⟩

/-- A state of type 93 at block g of W; what its slices lead to came in by w0. -/
def IsS93 (w0 W : World) (g : Nat) (f0 : List Int) (f1 : Int) (f2 : Int) : Prop := ∃ A0 c0, W.heap[g]? = some (.cells #[.slice A0 f0.length c0, .int .i64 f1, .int .i64 f2] 93 (0, 0)) ∧ w0.heap.size ≤ g ∧ Kd.C (Kd.int .u8) w0 A0 f0.length f0
theorem IsS93.grown {w0 W : World} {g : Nat} {f0 : List Int} {f1 : Int} {f2 : Int} {W1 : World} {row : Option Nat} (h : IsS93 w0 W g f0 f1 f2) (hw : W.grownBy W1 row) (hne : some g ≠ row) : IsS93 w0 W1 g f0 f1 f2 := by
 obtain ⟨A0, c0, hb, hg, hr0⟩ := h
 exact ⟨A0, c0, blk_grown hb hw hne, hg, hr0⟩
theorem IsS93.own_neN {w0 W : World} {g : Nat} {f0 : List Int} {f1 : Int} {f2 : Int} {α : Type} {d : Kd α} {e : Nat} {base : Nat} {ok : Nat → Prop} {v : Value} {xs : List α} (h : IsS93 w0 W g f0 f1 f2) (ho : Kd.N d e W base ok v xs) (ht : e ≠ 93) : some g ≠ v.ownBlock := by
 obtain ⟨A0, c0, hb, hg, hr0⟩ := h
 exact Kd.N_ne ho hb ht
theorem IsS93.fresh {w0 W : World} {g : Nat} {f0 : List Int} {f1 : Int} {f2 : Int} (h : IsS93 w0 W g f0 f1 f2) : ∀ k, W.heap.size ≤ k → k ≠ g := by
 obtain ⟨A0, c0, hb, hg, hr0⟩ := h
 exact Kd.freshB hb
theorem IsS93.kept {w0 W : World} {g : Nat} {f0 : List Int} {f1 : Int} {f2 : Int} {W1 : World} {S : Nat → Prop} (h : IsS93 w0 W g f0 f1 f2) (hk : Kept W W1 S) (hne : ¬ S g) : IsS93 w0 W1 g f0 f1 f2 := by
 obtain ⟨A0, c0, hb, hg, hr0⟩ := h
 exact ⟨A0, c0, blk_kept hb hk hne, hg, hr0⟩
theorem IsS93.below {w0 W : World} {g : Nat} {f0 : List Int} {f1 : Int} {f2 : Int} {W1 : World} (h : IsS93 w0 W g f0 f1 f2) (hw : Below W.heap.size W W1) : IsS93 w0 W1 g f0 f1 f2 := h.grown (grown_of_below hw none) (by simp)
theorem IsS93.alloc {w0 W : World} {g : Nat} {f0 : List Int} {f1 : Int} {f2 : Int} (h : IsS93 w0 W g f0 f1 f2) (o : Obj) : IsS93 w0 (W.alloc o) g f0 f1 f2 := h.below (below_alloc (Below.refl _ _) o)
theorem IsS93.drewN {w0 W : World} {g : Nat} {f0 : List Int} {f1 : Int} {f2 : Int} (h : IsS93 w0 W g f0 f1 f2) (m : Nat) : IsS93 w0 (W.drewN m) g f0 f1 f2 := h
theorem IsS93.drew {w0 W : World} {g : Nat} {f0 : List Int} {f1 : Int} {f2 : Int} (h : IsS93 w0 W g f0 f1 f2) : IsS93 w0 W.drew g f0 f1 f2 := h
theorem IsS93.at_ {w0 W : World} {g : Nat} {f0 : List Int} {f1 : Int} {f2 : Int} {w' : World} {m : Nat} (hq : W.drewN m = w') (h : IsS93 w0 W g f0 f1 f2) : IsS93 w0 w' g f0 f1 f2 := by subst hq; exact IsS93.drewN h m
theorem IsS93.apart {w0 W : World} {g : Nat} {f0 : List Int} {f1 : Int} {f2 : Int} {α : Type} {d : Kd α} {e : Nat} {base : Nat} {ok : Nat → Prop} {v : Value} {xs : List α} (h : IsS93 w0 W g f0 f1 f2) (ho : d.R e W base ok v xs) (ht : ∀ q, q ∈ e :: d.E → q ≠ 93) : d.R e W base (fun k => ok k ∧ k ≠ g) v xs := by
 obtain ⟨A0, c0, hb, hg, hr0⟩ := h
 exact Kd.R_types ho hb ht
theorem IsS93.own_ne {w0 W : World} {g : Nat} {f0 : List Int} {f1 : Int} {f2 : Int} {α : Type} {d : Kd α} {e : Nat} {base : Nat} {ok : Nat → Prop} {v : Value} {xs : List α} (h : IsS93 w0 W g f0 f1 f2) (ho : d.R e W base ok v xs) (ht : e ≠ 93) : some g ≠ v.ownBlock := by
 obtain ⟨A0, c0, hb, hg, hr0⟩ := h
 exact Kd.R_ne ho hb ht
theorem IsS93.apartQ {w0 W : World} {g : Nat} {f0 : List Int} {f1 : Int} {f2 : Int} {α : Type} {d : Kd α} {e : Nat} {base : Nat} {ok : Nat → Prop} {v : Value} {xs : List α} (h : IsS93 w0 W g f0 f1 f2) (ho : d.Q e W base ok v xs) (ht : ∀ q, q ∈ e :: d.E → q ≠ 93) : d.Q e W base (fun k => ok k ∧ k ≠ g) v xs := by
 obtain ⟨A0, c0, hb, hg, hr0⟩ := h
 exact Kd.Q_types ho hb ht
theorem IsS93.own_neQ {w0 W : World} {g : Nat} {f0 : List Int} {f1 : Int} {f2 : Int} {α : Type} {d : Kd α} {e : Nat} {base : Nat} {ok : Nat → Prop} {v : Value} {xs : List α} (h : IsS93 w0 W g f0 f1 f2) (ho : d.Q e W base ok v xs) (ht : e ≠ 93) : some g ≠ v.ownBlock := by
 obtain ⟨A0, c0, hb, hg, hr0⟩ := h
 exact Kd.Q_ne ho hb ht
theorem IsS93.apartS {w0 W : World} {g : Nat} {f0 : List Int} {f1 : Int} {f2 : Int} {α : Type} {d : Kd α} {e : Nat} {base : Nat} {ok : Nat → Prop} {v : Value} {xs : List α} (h : IsS93 w0 W g f0 f1 f2) (ho : d.S e W base ok v xs) (ht : ∀ q, q ∈ e :: d.E → q ≠ 93) : d.S e W base (fun k => ok k ∧ k ≠ g) v xs := by
 obtain ⟨A0, c0, hb, hg, hr0⟩ := h
 exact Kd.S_types ho hb ht
theorem IsS93.own_neS {w0 W : World} {g : Nat} {f0 : List Int} {f1 : Int} {f2 : Int} {α : Type} {d : Kd α} {e : Nat} {base : Nat} {ok : Nat → Prop} {v : Value} {xs : List α} (h : IsS93 w0 W g f0 f1 f2) (ho : d.S e W base ok v xs) (ht : e ≠ 93) : some g ≠ v.ownBlock := by
 obtain ⟨A0, c0, hb, hg, hr0⟩ := h
 exact Kd.S_ne ho hb ht
theorem IsS93.lt {w0 W : World} {g : Nat} {f0 : List Int} {f1 : Int} {f2 : Int} (h : IsS93 w0 W g f0 f1 f2) : g < W.heap.size := by
 obtain ⟨A0, c0, hb, hg, hr0⟩ := h
 exact blk_lt hb
theorem IsS93.ge {w0 W : World} {g : Nat} {f0 : List Int} {f1 : Int} {f2 : Int} (h : IsS93 w0 W g f0 f1 f2) : w0.heap.size ≤ g := by
 obtain ⟨A0, c0, hb, hg, hr0⟩ := h
 exact hg
theorem IsS93.ne_blk {w0 W : World} {g : Nat} {f0 : List Int} {f1 : Int} {f2 : Int} {a : Nat} {cs : Array Value} {t : TypeId} {fr : Nat × Nat} (h : IsS93 w0 W g f0 f1 f2) (hb2 : W.heap[a]? = some (.cells cs t fr)) (ht : t ≠ 93) : g ≠ a := by
 obtain ⟨A0, c0, hb, hg, hr0⟩ := h
 rintro rfl
 rw [hb] at hb2
 injection hb2 with hb2
 injection hb2 with _ ht2
 exact ht ht2.symm
theorem IsS93.far {w0 W : World} {g : Nat} {f0 : List Int} {f1 : Int} {f2 : Int} {p : Addr} (h : IsS93 w0 W g f0 f1 f2) (hne : g ≠ p.block) (u : Value) : IsS93 w0 (W.setCell p u) g f0 f1 f2 := by
 obtain ⟨A0, c0, hb, hg, hr0⟩ := h
 exact ⟨A0, c0, blk_far hb hne u, hg, hr0⟩
theorem cellS93_0 {W : World} {g : Nat} {A0 : Option Addr} {c0 : Nat} {f0 : List Int} {f1 : Int} {f2 : Int} (h : W.heap[g]? = some (.cells #[.slice A0 f0.length c0, .int .i64 f1, .int .i64 f2] 93 (0, 0))) : W.cell? ⟨g, 0, none⟩ = some (.slice A0 f0.length c0) := (blk_cell h 0).trans rfl
theorem cellS93_1 {W : World} {g : Nat} {A0 : Option Addr} {c0 : Nat} {f0 : List Int} {f1 : Int} {f2 : Int} (h : W.heap[g]? = some (.cells #[.slice A0 f0.length c0, .int .i64 f1, .int .i64 f2] 93 (0, 0))) : W.cell? ⟨g, 1, none⟩ = some (.int .i64 f1) := (blk_cell h 1).trans rfl
theorem IsS93.set_1 {w0 W : World} {g : Nat} {f0 : List Int} {f1 : Int} {f2 : Int} (h : IsS93 w0 W g f0 f1 f2) (x : Int) : IsS93 w0 (W.setCell ⟨g, 1, none⟩ (.int .i64 x)) g f0 x f2 := by
 obtain ⟨A0, c0, hb, hg, hr0⟩ := h
 exact ⟨A0, c0, by simpa using blk_set hb 1 (.int .i64 x), hg, hr0⟩
theorem cellS93_2 {W : World} {g : Nat} {A0 : Option Addr} {c0 : Nat} {f0 : List Int} {f1 : Int} {f2 : Int} (h : W.heap[g]? = some (.cells #[.slice A0 f0.length c0, .int .i64 f1, .int .i64 f2] 93 (0, 0))) : W.cell? ⟨g, 2, none⟩ = some (.int .i64 f2) := (blk_cell h 2).trans rfl
theorem IsS93.set_2 {w0 W : World} {g : Nat} {f0 : List Int} {f1 : Int} {f2 : Int} (h : IsS93 w0 W g f0 f1 f2) (x : Int) : IsS93 w0 (W.setCell ⟨g, 2, none⟩ (.int .i64 x)) g f0 f1 x := by
 obtain ⟨A0, c0, hb, hg, hr0⟩ := h
 exact ⟨A0, c0, by simpa using blk_set hb 2 (.int .i64 x), hg, hr0⟩
theorem IsS93.new (w0 W : World) (A0 : Option Addr) (c0 : Nat) (f0 : List Int) (f1 : Int) (f2 : Int) (hB : Below w0.heap.size w0 W) (hr0 : Kd.C (Kd.int .u8) w0 A0 f0.length f0) : IsS93 w0 (W.alloc (.cells #[.slice A0 f0.length c0, .int .i64 f1, .int .i64 f2] 93)) W.heap.size f0 f1 f2 := ⟨A0, c0, by simpa using heap_alloc_new W _, hB.size, hr0⟩
theorem i93_0 {w0 W : World} {g : Nat} {f0 : List Int} {f1 : Int} {f2 : Int} {f0' : List Int} {f1' : Int} {f2' : Int} {W1 : World} (h : Aside0 (IsS93 w0 W g f0 f1 f2)) (k : IsS93 w0 W g f0 f1 f2 → IsS93 w0 W1 g f0' f1' f2' := by (intro h; repeat (first | (with_reducible first | exact h | apply IsS93.alloc | apply IsS93.drewN | apply IsS93.drew | apply IsS93.set_1 | apply IsS93.set_2) | exact h))) : IsS93 w0 W1 g f0' f1' f2' := k h.out
theorem i93_1 {w0 W : World} {g : Nat} {f0 : List Int} {f1 : Int} {f2 : Int} {f0' : List Int} {f1' : Int} {f2' : Int} {W1 : World} {G1 : Prop} (h : Aside0 (IsS93 w0 W g f0 f1 f2)) (g1 : Aside0 G1) (k : G1 → IsS93 w0 W g f0 f1 f2 → IsS93 w0 W1 g f0' f1' f2' := by (intro g1 h; repeat (first | (with_reducible first | exact h | apply IsS93.alloc | apply IsS93.drewN | apply IsS93.drew | apply IsS93.set_1 | apply IsS93.set_2 | refine IsS93.far ?_ g1 _) | exact h))) : IsS93 w0 W1 g f0' f1' f2' := k g1.out h.out
theorem i93_2 {w0 W : World} {g : Nat} {f0 : List Int} {f1 : Int} {f2 : Int} {f0' : List Int} {f1' : Int} {f2' : Int} {W1 : World} {G1 G2 : Prop} (h : Aside0 (IsS93 w0 W g f0 f1 f2)) (g1 : Aside0 G1) (g2 : Aside0 G2) (k : G1 → G2 → IsS93 w0 W g f0 f1 f2 → IsS93 w0 W1 g f0' f1' f2' := by (intro g1 g2 h; repeat (first | (with_reducible first | exact h | apply IsS93.alloc | apply IsS93.drewN | apply IsS93.drew | apply IsS93.set_1 | apply IsS93.set_2 | refine IsS93.far ?_ g1 _ | refine IsS93.far ?_ g2 _) | exact h))) : IsS93 w0 W1 g f0' f1' f2' := k g1.out g2.out h.out
theorem i93_3 {w0 W : World} {g : Nat} {f0 : List Int} {f1 : Int} {f2 : Int} {f0' : List Int} {f1' : Int} {f2' : Int} {W1 : World} {G1 G2 G3 : Prop} (h : Aside0 (IsS93 w0 W g f0 f1 f2)) (g1 : Aside0 G1) (g2 : Aside0 G2) (g3 : Aside0 G3) (k : G1 → G2 → G3 → IsS93 w0 W g f0 f1 f2 → IsS93 w0 W1 g f0' f1' f2' := by (intro g1 g2 g3 h; repeat (first | (with_reducible first | exact h | apply IsS93.alloc | apply IsS93.drewN | apply IsS93.drew | apply IsS93.set_1 | apply IsS93.set_2 | refine IsS93.far ?_ g1 _ | refine IsS93.far ?_ g2 _ | refine IsS93.far ?_ g3 _) | exact h))) : IsS93 w0 W1 g f0' f1' f2' := k g1.out g2.out g3.out h.out
theorem i93_r {w0 W : World} {g : Nat} {f0 : List Int} {f1 : Int} {f2 : Int} {W1 w2 : World} {α : Type} {d : Kd α} {e base : Nat} {ok : Nat → Prop} {v : Value} {xs : List α} (hk : KeepBut W w2 g none) (hi : IsS93 w0 W g f0 f1 f2) (h : Aside0 (d.R e W1 base ok v xs)) (k : d.R e W1 base ok v xs → d.R e W base ok v xs := by first | exact id | exact fun h => Kd.R_drewN h _ | exact fun h => Kd.R_drew h | (intro h; with_reducible repeat (first | exact h | apply Kd.R_alloc | apply Kd.R_drewN | apply Kd.R_drew))) (ht : ∀ q, q ∈ e :: d.E → q ≠ 93 := by decide) : Aside0 (d.R e w2 base ok v xs) := ⟨Kd.R_mono (Kd.R_keep (IsS93.apart hi (k h.out) ht) hk (fun _ h => h.2)) (fun _ h => h.1)⟩
theorem i93_l {w0 W : World} {g : Nat} {f0 : List Int} {f1 : Int} {f2 : Int} {n : Nat} (hg : n = W.heap.size) (hi : IsS93 w0 W g f0 f1 f2) : Aside0 (g ≠ n) := ⟨by rw [hg]; exact Nat.ne_of_lt (IsS93.lt hi)⟩
theorem i93_g {w0 W : World} {g : Nat} {f0 : List Int} {f1 : Int} {f2 : Int} {n : Nat} (hg : n = W.heap.size) (hi : IsS93 w0 W g f0 f1 f2) : Aside0 (n ≠ g) := ⟨by rw [hg]; exact Nat.ne_of_gt (IsS93.lt hi)⟩

/-! ### spec_l01New: function 49 -/
def spec_l01New.l0 : Nat → List Int → Int → Int → Option (List Int × Int × Int)
 | 0, _, _, _ => none
 | k + 1, x0, x3, x4 => if x4 < (x0.length : Int) then (if x4 < 4000 then (if 0 ≤ x4 then (spec_l01New.l0 k x0 (Go.bits .and .i64 (wrap64 ((wrap64 ((wrap64 (x3 * 131)) + (wrap64 (rd x0 x4)))) + 7)) 1073741823) (wrap64 (x4 + 1))) else (none)) else (some (x0, 0, x3))) else (some (x0, 0, x3))
def spec_l01New.f (k : Nat) (l0 : List Int) : Option (List Int × Int × Int) := spec_l01New.l0 k l0 (wrap64 (37401 + (l0.length : Int))) 0
theorem spec_l01New.mono_l : ∀ k, (∀ y0 y1 y2, LeO (spec_l01New.l0 k y0 y1 y2) (spec_l01New.l0 (k + 1) y0 y1 y2))
 | 0 => fun _ _ _ r h => by simp [spec_l01New.l0] at h
 | k + 1 => by
  have ih0 := spec_l01New.mono_l k
  ·intro y0 y1 y2
   unfold spec_l01New.l0
   repeat' first
   | (with_reducible exact ih0 _ _ _)
   | (with_reducible exact LeO.refl _)
   | (with_reducible exact LeO.none _)
   | (with_reducible refine LeO.ite ?_ ?_)
   | (with_reducible refine LeO.bind ?_ (fun _ => ?_))
   | exact ih0 _ _ _
   | exact LeO.none _
   | refine LeO.ite ?_ ?_
   | refine LeO.bind ?_ (fun _ => ?_)
theorem spec_l01New.mono : ∀ a0 k, LeO (spec_l01New.f k a0) (spec_l01New.f (k + 1) a0) := by
 intro a0 k
 have ih0 := spec_l01New.mono_l k
 unfold spec_l01New.f
 repeat' first
   | (with_reducible exact ih0 _ _ _)
   | (with_reducible exact LeO.refl _)
   | (with_reducible exact LeO.none _)
   | (with_reducible refine LeO.ite ?_ ?_)
   | (with_reducible refine LeO.bind ?_ (fun _ => ?_))
   | exact ih0 _ _ _
   | exact LeO.none _
   | refine LeO.ite ?_ ?_
   | refine LeO.bind ?_ (fun _ => ?_)
set_option maxHeartbeats 8000000 in
set_option maxRecDepth 100000 in
theorem spec_l01New.calls (k : Nat) (A0 : Option Addr) (c0 : Nat) (l0 : List Int) (r1 : List Int) (r2 : Int) (r3 : Int) (w0 w : World) (hB : Below w0.heap.size w0 w) (hr0 : Kd.C (Kd.int .u8) w0 A0 l0.length l0) (hc0 : l0.length ≤ c0) (h : spec_l01New.f k l0 = some (r1, r2, r3)) :
  Calls Try.prog 49 #[.slice A0 l0.length c0] w fun e w' => ∃ g_ : Nat, e = .returned (.pointer (some ⟨g_, 0, none⟩)) ∧ IsS93 w0 w' g_ r1 r2 r3 ∧ Below w0.heap.size w0 w' ∧ Below w.heap.size w w' := by
 have hu93 := Try.underlying93
 have HR0 := Aside0.mk hr0
 have HC0 := Aside0.mk hc0
 clear hr0 hc0
 have HBW := Aside0.mk (Below.refl w.heap.size w)
 have HW0 := Aside0.mk hB.size
 have HB := Aside0.mk hB
 clear hB
 have H : (spec_l01New.l0 k l0 (wrap64 (37401 + (l0.length : Int))) 0) = some (r1, r2, r3) := h
 clear h
 have H' := Aside0.mk H
 clear H
 go_enter Try.func49, Try.ntmps49
 go_wp2
 go_loopg [3, 4] k (fun kq v3 v4 w' => ∃ (x3_1 : Int) (x4_1 : Int), v3 = .int .i64 x3_1 ∧ v4 = .int .i64 x4_1 ∧ Aside0 (spec_l01New.l0 kq l0 x3_1 x4_1 = some (r1, r2, r3)) ∧ Aside0 (kq ≤ k) ∧ Aside0 (Below w0.heap.size w0 w') ∧ Aside0 (Below w.heap.size w w'))
 case atStart => exact ⟨(wrap64 (37401 + (l0.length : Int))), (0), (by first | rfl | (simp; done) | (simp [*]; done)), (by first | rfl | (simp; done) | (simp [*]; done)), H', ⟨Nat.le_refl _⟩, ⟨zb0 HB.out⟩, ⟨(zb0 HBW.out)⟩⟩
 case round =>
  clear H'
  obtain ⟨x3_1, x4_1, rfl, rfl, HA, HK1, HB, HBW⟩ := hrel
  cases gk with
  | zero => exact absurd HA.out (by simp [spec_l01New.l0])
  | succ k1 =>
   have H := HA.out
   clear HA
   simp only [spec_l01New.l0] at H
   by_cases c2 : x4_1 < (l0.length : Int)
   ·rw [if_pos c2] at H
    have c2b0 : decide (x4_1 < (l0.length : Int)) = true := decide_eq_true c2
    have c2b1 : decide ((l0.length : Int) ≤ x4_1) = false := decide_eq_false (by omega)
    clear c2
    by_cases c3 : x4_1 < 4000
    ·rw [if_pos c3] at H
     have c3b0 : decide (x4_1 < 4000) = true := decide_eq_true c3
     clear c3
     by_cases c4 : 0 ≤ x4_1
     ·rw [if_pos c4] at H
      have c4b0 : decide (0 ≤ x4_1) = true := decide_eq_true c4
      clear c4
      have H' := Aside0.mk H
      clear H
      have p239 : 0 ≤ (x4_1 : Int) := zpq
      have q239 : x4_1 < (l0.length : Int) := zpq
      obtain ⟨ad239, e239, hx239_0⟩ := Kd.at_int HR0.out x4_1 p239 q239
      cases e239
      replace hx239_0 := pw_cell_below HB.out hx239_0
      replace p239 := eq_true p239
      replace q239 := eq_true q239
      go_wp2
      go_roundg k1
      case measure => have := HK1.out; omega
      case rel => exact ⟨(Go.bits .and .i64 (wrap64 ((wrap64 ((wrap64 (x3_1 * 131)) + (wrap64 (rd l0 x4_1)))) + 7)) 1073741823), (wrap64 (x4_1 + 1)), (by first | rfl | (simp; done) | (simp [*]; done)), (by first | rfl | (simp; done) | (simp [*]; done)), H', ⟨by have := HK1.out; omega⟩, ⟨zb0 HB.out⟩, ⟨(zb0 HBW.out)⟩⟩
     ·rw [if_neg c4] at H
      exact absurd H (by simp)
    ·rw [if_neg c3] at H
     have c3b0 : decide (x4_1 < 4000) = false := decide_eq_false c3
     clear c3
     simp only [Option.some.injEq, Prod.mk.injEq] at H
     obtain ⟨rfl, rfl, rfl⟩ := H
     go_wp2_with (first | ((with_reducible refine gate_dst (N := 31) rfl ?_); refine box_event rfl (N := 31) rfl (cs := #[.slice A0 l0.length c0, .int .i64 0, .int .i64 x3_1]) (t := 93) zrun ?_; intro gb240 hg w5 hbox hb; have BK240 := am (hbox); have GW240 := am ((by rw [hg]; exact (below_size (zb0 HBW.out)) : w.heap.size ≤ gb240)); have GE240 := am ((Nat.le_trans HW0.out (by rw [hg]; exact (below_size (zb0 HBW.out)) : w.heap.size ≤ gb240) : w0.heap.size ≤ gb240)); replace HBW := am (below_step HBW.out hb); replace HB := zs0 hb HB; clear hb hbox hg))
     go_ret
     exact ⟨_, rfl, (show IsS93 w0 _ gb240 l0 0 x3_1 from ⟨_, _, kx BK240.out, GE240.out, HR0.out⟩), zb1 HB.out GE240.out, (zb1 HBW.out GW240.out)⟩
   ·rw [if_neg c2] at H
    have c2b0 : decide (x4_1 < (l0.length : Int)) = false := decide_eq_false c2
    have c2b1 : decide ((l0.length : Int) ≤ x4_1) = true := decide_eq_true (by omega)
    clear c2
    simp only [Option.some.injEq, Prod.mk.injEq] at H
    obtain ⟨rfl, rfl, rfl⟩ := H
    go_wp2_with (first | ((with_reducible refine gate_dst (N := 31) rfl ?_); refine box_event rfl (N := 31) rfl (cs := #[.slice A0 l0.length c0, .int .i64 0, .int .i64 x3_1]) (t := 93) zrun ?_; intro gb241 hg w6 hbox hb; have BK241 := am (hbox); have GW241 := am ((by rw [hg]; exact (below_size (zb0 HBW.out)) : w.heap.size ≤ gb241)); have GE241 := am ((Nat.le_trans HW0.out (by rw [hg]; exact (below_size (zb0 HBW.out)) : w.heap.size ≤ gb241) : w0.heap.size ≤ gb241)); replace HBW := am (below_step HBW.out hb); replace HB := zs0 hb HB; clear hb hbox hg))
    go_ret
    exact ⟨_, rfl, (show IsS93 w0 _ gb241 l0 0 x3_1 from ⟨_, _, kx BK241.out, GE241.out, HR0.out⟩), zb1 HB.out GE241.out, (zb1 HBW.out GW241.out)⟩

/-! ### spec_l01Byte: function 77 -/
def spec_l01Byte.f (s0_0 : List Int) (s0_1 : Int) (s0_2 : Int) : Option (Int × Int × Int) := if s0_1 < (s0_0.length : Int) then (if 0 ≤ s0_1 then (some (Go.bits .and .i64 (wrap64 ((Go.bits .and .i64 (Go.bits .xor .i64 ((wrap64 ((wrap64 (s0_2 * 6364136223846793005)) + 1442695040888963407)) / 8589934592) ((wrap64 ((wrap64 (s0_2 * 6364136223846793005)) + 1442695040888963407)) / 35184372088832)) 255) + (wrap64 (rd s0_0 s0_1)))) 255, wrap64 (s0_1 + 1), wrap64 ((wrap64 (s0_2 * 6364136223846793005)) + 1442695040888963407))) else (none)) else (some (Go.bits .and .i64 (Go.bits .xor .i64 ((wrap64 ((wrap64 (s0_2 * 6364136223846793005)) + 1442695040888963407)) / 8589934592) ((wrap64 ((wrap64 (s0_2 * 6364136223846793005)) + 1442695040888963407)) / 35184372088832)) 255, s0_1, wrap64 ((wrap64 (s0_2 * 6364136223846793005)) + 1442695040888963407)))
set_option maxHeartbeats 8000000 in
set_option maxRecDepth 100000 in
theorem spec_l01Byte.calls (g : Nat) (s0_0 : List Int) (s0_1 : Int) (s0_2 : Int) (r1 : Int) (r2 : Int) (r3 : Int) (w0 w : World) (hI : IsS93 w0 w g s0_0 s0_1 s0_2) (hB : Below w0.heap.size w0 w) (h : spec_l01Byte.f s0_0 s0_1 s0_2 = some (r1, r2, r3)) :
  Calls Try.prog 77 #[.pointer (some ⟨g, 0, none⟩)] w fun e w' => e = .returned (.int .i64 r1) ∧ IsS93 w0 w' g s0_0 r2 r3 ∧ Below w0.heap.size w0 w' ∧ KeepBut w w' g none := by
 have HI0 := Aside0.mk hI
 have HK := Aside0.mk (KeepBut.refl w g none)
 have HL := Aside0.mk hB.size
 clear hI
 have HW0 := Aside0.mk hB.size
 have HB := Aside0.mk hB
 clear hB
 have H : (if s0_1 < (s0_0.length : Int) then (if 0 ≤ s0_1 then (some (Go.bits .and .i64 (wrap64 ((Go.bits .and .i64 (Go.bits .xor .i64 ((wrap64 ((wrap64 (s0_2 * 6364136223846793005)) + 1442695040888963407)) / 8589934592) ((wrap64 ((wrap64 (s0_2 * 6364136223846793005)) + 1442695040888963407)) / 35184372088832)) 255) + (wrap64 (rd s0_0 s0_1)))) 255, wrap64 (s0_1 + 1), wrap64 ((wrap64 (s0_2 * 6364136223846793005)) + 1442695040888963407))) else (none)) else (some (Go.bits .and .i64 (Go.bits .xor .i64 ((wrap64 ((wrap64 (s0_2 * 6364136223846793005)) + 1442695040888963407)) / 8589934592) ((wrap64 ((wrap64 (s0_2 * 6364136223846793005)) + 1442695040888963407)) / 35184372088832)) 255, s0_1, wrap64 ((wrap64 (s0_2 * 6364136223846793005)) + 1442695040888963407)))) = some (r1, r2, r3) := h
 clear h
 by_cases c2 : s0_1 < (s0_0.length : Int)
 ·rw [if_pos c2] at H
  have c2b0 : decide (s0_1 < (s0_0.length : Int)) = true := decide_eq_true c2
  have c2b1 : decide ((s0_0.length : Int) ≤ s0_1) = false := decide_eq_false (by omega)
  clear c2
  by_cases c3 : 0 ≤ s0_1
  ·rw [if_pos c3] at H
   have c3b0 : decide (0 ≤ s0_1) = true := decide_eq_true c3
   clear c3
   simp only [Option.some.injEq, Prod.mk.injEq] at H
   obtain ⟨rfl, rfl, rfl⟩ := H
   obtain ⟨ASz4_0, cSz4_0, HGz4, hgz4, HSz4_0⟩ := HI0.out
   have hcz4_0 := cellS93_0 HGz4
   have hcz4_1 := cellS93_1 HGz4
   have hcz4_2 := cellS93_2 HGz4
   have hfz4_1 := blk_frozen HGz4 1
   have hfz4_2 := blk_frozen HGz4 2
   clear HGz4 hgz4
   have p242 : 0 ≤ (s0_1 : Int) := zpq
   have q242 : s0_1 < (s0_0.length : Int) := zpq
   obtain ⟨ad242, e242, hx242_0⟩ := Kd.at_int HSz4_0 s0_1 p242 q242
   cases e242
   have hn242_0 : ad242.block ≠ g := Nat.ne_of_lt (Nat.lt_of_lt_of_le (by have := World.block_lt_of_cell? _ _ hx242_0; first | rwa [add_block] at this | exact this) (IsS93.ge HI0.out))
   replace hx242_0 := pw_cell_below HB.out hx242_0
   replace hx242_0 := (cell_far (p := ⟨g, 2, none⟩) (by first | (rw [add_block]; exact hn242_0) | (show (Addr.add _ _).block ≠ _; rw [add_block]; exact hn242_0) | exact hn242_0) (.int .i64 (wrap64 ((wrap64 (s0_2 * 6364136223846793005)) + 1442695040888963407)))).trans hx242_0
   (try have hy242_0 := fun (n_ : Nat) => (show (((w.drewN n_).setCell ⟨g, 2, none⟩ (.int .i64 (wrap64 ((wrap64 (s0_2 * 6364136223846793005)) + 1442695040888963407))))).cell? _ = some _ from hx242_0))
   clear hn242_0
   replace p242 := eq_true p242
   replace q242 := eq_true q242
   go_enter Try.func77, Try.ntmps77
   go_wp2
   repeat (go_quiet (fail); try go_wp2)
   go_ret
   exact ⟨by first | rfl | (simp [errW_none, errW_some] <;> rfl) | (simp [*, errW_none, errW_some] <;> rfl), (i93_0 HI0), (zb1 HB.out (IsS93.ge HI0.out)), (zq0 HK)⟩
  ·rw [if_neg c3] at H
   exact absurd H (by simp)
 ·rw [if_neg c2] at H
  have c2b0 : decide (s0_1 < (s0_0.length : Int)) = false := decide_eq_false c2
  have c2b1 : decide ((s0_0.length : Int) ≤ s0_1) = true := decide_eq_true (by omega)
  clear c2
  simp only [Option.some.injEq, Prod.mk.injEq] at H
  obtain ⟨rfl, rfl, rfl⟩ := H
  obtain ⟨ASz5_0, cSz5_0, HGz5, hgz5, HSz5_0⟩ := HI0.out
  have hcz5_0 := cellS93_0 HGz5
  have hcz5_1 := cellS93_1 HGz5
  have hcz5_2 := cellS93_2 HGz5
  have hfz5_1 := blk_frozen HGz5 1
  have hfz5_2 := blk_frozen HGz5 2
  clear HGz5 hgz5
  go_enter Try.func77, Try.ntmps77
  go_wp2
  repeat (go_quiet (fail); try go_wp2)
  go_ret
  exact ⟨by first | rfl | (simp [errW_none, errW_some] <;> rfl) | (simp [*, errW_none, errW_some] <;> rfl), (i93_0 HI0), (zb1 HB.out (IsS93.ge HI0.out)), (zq0 HK)⟩

/-! ### spec_l01Below: function 66 -/
def spec_l01Below.f (s0_0 : List Int) (s0_1 : Int) (s0_2 : Int) (a1 : Int) : Option (Int × Int × Int) := if a1 ≤ 0 then (some (0, s0_1, s0_2)) else (if a1 ≤ 256 then ((spec_l01Byte.f s0_0 s0_1 s0_2).bind fun bt243 => (if a1 = 0 then (none) else (some (Int.tmod bt243.1 a1, bt243.2.1, bt243.2.2)))) else ((spec_l01Byte.f s0_0 s0_1 s0_2).bind fun bt246 => ((spec_l01Byte.f s0_0 bt246.2.1 bt246.2.2).bind fun bt249 => ((spec_l01Byte.f s0_0 bt249.2.1 bt249.2.2).bind fun bt252 => ((spec_l01Byte.f s0_0 bt252.2.1 bt252.2.2).bind fun bt255 => (if a1 = 0 then (none) else (some (Int.tmod (wrap64 ((wrap64 ((wrap64 ((wrap64 (bt246.1 * 16777216)) + (wrap64 (bt249.1 * 65536)))) + (wrap64 (bt252.1 * 256)))) + bt255.1)) a1, bt255.2.1, bt255.2.2))))))))
set_option maxHeartbeats 8000000 in
set_option maxRecDepth 100000 in
theorem spec_l01Below.calls (g : Nat) (s0_0 : List Int) (s0_1 : Int) (s0_2 : Int) (a1 : Int) (r1 : Int) (r2 : Int) (r3 : Int) (w0 w : World) (hI : IsS93 w0 w g s0_0 s0_1 s0_2) (hB : Below w0.heap.size w0 w) (h : spec_l01Below.f s0_0 s0_1 s0_2 a1 = some (r1, r2, r3)) :
  Calls Try.prog 66 #[.pointer (some ⟨g, 0, none⟩), .int .i64 a1] w fun e w' => e = .returned (.int .i64 r1) ∧ IsS93 w0 w' g s0_0 r2 r3 ∧ Below w0.heap.size w0 w' ∧ KeepBut w w' g none := by
 have HI0 := Aside0.mk hI
 have HK := Aside0.mk (KeepBut.refl w g none)
 have HL := Aside0.mk hB.size
 clear hI
 have HW0 := Aside0.mk hB.size
 have HB := Aside0.mk hB
 clear hB
 have H : (if a1 ≤ 0 then (some (0, s0_1, s0_2)) else (if a1 ≤ 256 then ((spec_l01Byte.f s0_0 s0_1 s0_2).bind fun bt243 => (if a1 = 0 then (none) else (some (Int.tmod bt243.1 a1, bt243.2.1, bt243.2.2)))) else ((spec_l01Byte.f s0_0 s0_1 s0_2).bind fun bt246 => ((spec_l01Byte.f s0_0 bt246.2.1 bt246.2.2).bind fun bt249 => ((spec_l01Byte.f s0_0 bt249.2.1 bt249.2.2).bind fun bt252 => ((spec_l01Byte.f s0_0 bt252.2.1 bt252.2.2).bind fun bt255 => (if a1 = 0 then (none) else (some (Int.tmod (wrap64 ((wrap64 ((wrap64 ((wrap64 (bt246.1 * 16777216)) + (wrap64 (bt249.1 * 65536)))) + (wrap64 (bt252.1 * 256)))) + bt255.1)) a1, bt255.2.1, bt255.2.2))))))))) = some (r1, r2, r3) := h
 clear h
 by_cases c3 : a1 ≤ 0
 ·rw [if_pos c3] at H
  have c3b0 : decide (a1 ≤ 0) = true := decide_eq_true c3
  clear c3
  simp only [Option.some.injEq, Prod.mk.injEq] at H
  obtain ⟨rfl, rfl, rfl⟩ := H
  go_enter Try.func66, Try.ntmps66
  go_wp2
  go_ret
  exact ⟨by first | rfl | (simp [errW_none, errW_some] <;> rfl) | (simp [*, errW_none, errW_some] <;> rfl), (i93_0 HI0), (zb1 HB.out (IsS93.ge HI0.out)), (zq0 HK)⟩
 ·rw [if_neg c3] at H
  have c3b0 : decide (a1 ≤ 0) = false := decide_eq_false c3
  clear c3
  by_cases c4 : a1 ≤ 256
  ·rw [if_pos c4] at H
   have c4b0 : decide (a1 ≤ 256) = true := decide_eq_true c4
   clear c4
   replace H := Option.bind_eq_some_iff.mp H
   obtain ⟨⟨t243, t244, t245⟩, A50, H⟩ := H
   try dsimp only at H
   have A5 := Aside0.mk A50
   clear A50
   by_cases c6 : a1 = 0
   ·rw [if_pos c6] at H
    exact absurd H (by simp)
   ·rw [if_neg c6] at H
    have c6b0 : (a1 == 0) = false := beq_eq_false_iff_ne.mpr c6
    have c6b1 : (a1 != 0) = true := bne_iff_ne.mpr c6
    simp only [Option.some.injEq, Prod.mk.injEq] at H
    obtain ⟨rfl, rfl, rfl⟩ := H
    go_enter Try.func66, Try.ntmps66
    go_wp2_with (first | ((with_reducible refine gate_callee (f := 77) rfl ?_); refine goesL_ (some 14) rfl rfl Try.func77 (by kernel_rfl) rfl #[.pointer (some ⟨g, 0, none⟩)] rfl zr ?_; (with_reducible refine (spec_l01Byte.calls g s0_0 s0_1 s0_2 t243 t244 t245 w0 _ ?side1 ?side2 A5.out).mono ?_); (case side1 => exact i93_0 HI0); (case side2 => exact zb1 HB.out (IsS93.ge HI0.out)); rintro e w7 ⟨rfl, hi, hb, hk⟩; refine ⟨_, rfl, ?_⟩; replace HK := zqt hk (zq0 HK); replace HB := am (hb); replace HI0 := am (hi); clear hb hk hi))
    go_ret
    exact ⟨by first | rfl | (simp [errW_none, errW_some] <;> rfl) | (simp [*, errW_none, errW_some] <;> rfl), (i93_0 HI0), (zb1 HB.out (IsS93.ge HI0.out)), (zq0 HK)⟩
  ·rw [if_neg c4] at H
   have c4b0 : decide (a1 ≤ 256) = false := decide_eq_false c4
   clear c4
   replace H := Option.bind_eq_some_iff.mp H
   obtain ⟨⟨t246, t247, t248⟩, A80, H⟩ := H
   try dsimp only at H
   have A8 := Aside0.mk A80
   clear A80
   replace H := Option.bind_eq_some_iff.mp H
   obtain ⟨⟨t249, t250, t251⟩, A90, H⟩ := H
   try dsimp only at H
   have A9 := Aside0.mk A90
   clear A90
   replace H := Option.bind_eq_some_iff.mp H
   obtain ⟨⟨t252, t253, t254⟩, A100, H⟩ := H
   try dsimp only at H
   have A10 := Aside0.mk A100
   clear A100
   replace H := Option.bind_eq_some_iff.mp H
   obtain ⟨⟨t255, t256, t257⟩, A110, H⟩ := H
   try dsimp only at H
   have A11 := Aside0.mk A110
   clear A110
   by_cases c12 : a1 = 0
   ·rw [if_pos c12] at H
    exact absurd H (by simp)
   ·rw [if_neg c12] at H
    have c12b0 : (a1 == 0) = false := beq_eq_false_iff_ne.mpr c12
    have c12b1 : (a1 != 0) = true := bne_iff_ne.mpr c12
    simp only [Option.some.injEq, Prod.mk.injEq] at H
    obtain ⟨rfl, rfl, rfl⟩ := H
    go_enter Try.func66, Try.ntmps66
    go_wp2_with (first | ((with_reducible refine gate_callee (f := 77) rfl ?_); refine goesL_ (some 18) rfl rfl Try.func77 (by kernel_rfl) rfl #[.pointer (some ⟨g, 0, none⟩)] rfl zr ?_; (with_reducible refine (spec_l01Byte.calls g s0_0 s0_1 s0_2 t246 t247 t248 w0 _ ?side1 ?side2 A8.out).mono ?_); (case side1 => exact i93_0 HI0); (case side2 => exact zb1 HB.out (IsS93.ge HI0.out)); rintro e w13 ⟨rfl, hi, hb, hk⟩; refine ⟨_, rfl, ?_⟩; replace HK := zqt hk (zq0 HK); replace HB := am (hb); replace HI0 := am (hi); clear hb hk hi) | ((with_reducible refine gate_callee (f := 77) rfl ?_); refine goesL_ (some 20) rfl rfl Try.func77 (by kernel_rfl) rfl #[.pointer (some ⟨g, 0, none⟩)] rfl zr ?_; (with_reducible refine (spec_l01Byte.calls g s0_0 t247 t248 t249 t250 t251 w0 _ ?side1 ?side2 A9.out).mono ?_); (case side1 => exact i93_0 HI0); (case side2 => exact zb1 HB.out (IsS93.ge HI0.out)); rintro e w14 ⟨rfl, hi, hb, hk⟩; refine ⟨_, rfl, ?_⟩; replace HK := zqt hk (zq0 HK); replace HB := am (hb); replace HI0 := am (hi); clear hb hk hi) | ((with_reducible refine gate_callee (f := 77) rfl ?_); refine goesL_ (some 22) rfl rfl Try.func77 (by kernel_rfl) rfl #[.pointer (some ⟨g, 0, none⟩)] rfl zr ?_; (with_reducible refine (spec_l01Byte.calls g s0_0 t250 t251 t252 t253 t254 w0 _ ?side1 ?side2 A10.out).mono ?_); (case side1 => exact i93_0 HI0); (case side2 => exact zb1 HB.out (IsS93.ge HI0.out)); rintro e w15 ⟨rfl, hi, hb, hk⟩; refine ⟨_, rfl, ?_⟩; replace HK := zqt hk (zq0 HK); replace HB := am (hb); replace HI0 := am (hi); clear hb hk hi) | ((with_reducible refine gate_callee (f := 77) rfl ?_); refine goesL_ (some 24) rfl rfl Try.func77 (by kernel_rfl) rfl #[.pointer (some ⟨g, 0, none⟩)] rfl zr ?_; (with_reducible refine (spec_l01Byte.calls g s0_0 t253 t254 t255 t256 t257 w0 _ ?side1 ?side2 A11.out).mono ?_); (case side1 => exact i93_0 HI0); (case side2 => exact zb1 HB.out (IsS93.ge HI0.out)); rintro e w16 ⟨rfl, hi, hb, hk⟩; refine ⟨_, rfl, ?_⟩; replace HK := zqt hk (zq0 HK); replace HB := am (hb); replace HI0 := am (hi); clear hb hk hi))
    go_ret
    exact ⟨by first | rfl | (simp [errW_none, errW_some] <;> rfl) | (simp [*, errW_none, errW_some] <;> rfl), (i93_0 HI0), (zb1 HB.out (IsS93.ge HI0.out)), (zq0 HK)⟩

/-! ### spec_l01Text: function 67 -/
mutual
def spec_l01Text.j0 : Nat → Int → List Int → Int → Int → Option (ByteArray × Int × Int)
 | 0, _, _, _, _ => none
 | k + 1, x1, x1000, x1001, x1002 => spec_l01Text.l0 k x1 (([] : List Int)) 0 x1000 x1001 x1002
def spec_l01Text.l0 : Nat → Int → List Int → Int → List Int → Int → Int → Option (ByteArray × Int × Int)
 | 0, _, _, _, _, _, _ => none
 | k + 1, x1, x5, x6, x1000, x1001, x1002 => if x6 < x1 then ((spec_l01Byte.f x1000 x1001 x1002).bind fun bt261 => (if x5.length < 140737488355328 then (spec_l01Text.l0 k x1 (x5 ++ [(bt261.1) % 256]) (wrap64 (x6 + 1)) x1000 bt261.2.1 bt261.2.2) else (none))) else (some (strOfNums x5, x1001, x1002))
end
def spec_l01Text.f (k : Nat) (s0_0 : List Int) (s0_1 : Int) (s0_2 : Int) (a1 : Int) : Option (ByteArray × Int × Int) := if a1 > 5000 then (spec_l01Text.j0 k 5000 s0_0 s0_1 s0_2) else (spec_l01Text.j0 k a1 s0_0 s0_1 s0_2)
theorem spec_l01Text.mono_l : ∀ k, (∀ y0 y1 y2 y3, LeO (spec_l01Text.j0 k y0 y1 y2 y3) (spec_l01Text.j0 (k + 1) y0 y1 y2 y3)) ∧ (∀ y0 y1 y2 y3 y4 y5, LeO (spec_l01Text.l0 k y0 y1 y2 y3 y4 y5) (spec_l01Text.l0 (k + 1) y0 y1 y2 y3 y4 y5))
 | 0 => ⟨fun _ _ _ _ r h => by simp [spec_l01Text.j0] at h, fun _ _ _ _ _ _ r h => by simp [spec_l01Text.l0] at h⟩
 | k + 1 => by
  obtain ⟨ih0, ih1⟩ := spec_l01Text.mono_l k
  refine ⟨?_, ?_⟩
  ·intro y0 y1 y2 y3
   unfold spec_l01Text.j0
   repeat' first
   | (with_reducible exact ih0 _ _ _ _)
   | (with_reducible exact ih1 _ _ _ _ _ _)
   | (with_reducible exact LeO.refl _)
   | (with_reducible exact LeO.none _)
   | (with_reducible refine LeO.ite ?_ ?_)
   | (with_reducible refine LeO.bind ?_ (fun _ => ?_))
   | exact ih0 _ _ _ _
   | exact ih1 _ _ _ _ _ _
   | exact LeO.none _
   | refine LeO.ite ?_ ?_
   | refine LeO.bind ?_ (fun _ => ?_)
  ·intro y0 y1 y2 y3 y4 y5
   unfold spec_l01Text.l0
   repeat' first
   | (with_reducible exact ih0 _ _ _ _)
   | (with_reducible exact ih1 _ _ _ _ _ _)
   | (with_reducible exact LeO.refl _)
   | (with_reducible exact LeO.none _)
   | (with_reducible refine LeO.ite ?_ ?_)
   | (with_reducible refine LeO.bind ?_ (fun _ => ?_))
   | exact ih0 _ _ _ _
   | exact ih1 _ _ _ _ _ _
   | exact LeO.none _
   | refine LeO.ite ?_ ?_
   | refine LeO.bind ?_ (fun _ => ?_)
theorem spec_l01Text.mono : ∀ a0 a1 a2 a3 k, LeO (spec_l01Text.f k a0 a1 a2 a3) (spec_l01Text.f (k + 1) a0 a1 a2 a3) := by
 intro a0 a1 a2 a3 k
 obtain ⟨ih0, ih1⟩ := spec_l01Text.mono_l k
 unfold spec_l01Text.f
 repeat' first
   | (with_reducible exact ih0 _ _ _ _)
   | (with_reducible exact ih1 _ _ _ _ _ _)
   | (with_reducible exact LeO.refl _)
   | (with_reducible exact LeO.none _)
   | (with_reducible refine LeO.ite ?_ ?_)
   | (with_reducible refine LeO.bind ?_ (fun _ => ?_))
   | exact ih0 _ _ _ _
   | exact ih1 _ _ _ _ _ _
   | exact LeO.none _
   | refine LeO.ite ?_ ?_
   | refine LeO.bind ?_ (fun _ => ?_)
set_option maxHeartbeats 8000000 in
set_option maxRecDepth 100000 in
theorem spec_l01Text.calls (k : Nat) (g : Nat) (s0_0 : List Int) (s0_1 : Int) (s0_2 : Int) (a1 : Int) (r1 : ByteArray) (r2 : Int) (r3 : Int) (w0 w : World) (hI : IsS93 w0 w g s0_0 s0_1 s0_2) (hB : Below w0.heap.size w0 w) (h : spec_l01Text.f k s0_0 s0_1 s0_2 a1 = some (r1, r2, r3)) :
  Calls Try.prog 67 #[.pointer (some ⟨g, 0, none⟩), .int .i64 a1] w fun e w' => e = .returned (.string r1) ∧ IsS93 w0 w' g s0_0 r2 r3 ∧ Below w0.heap.size w0 w' ∧ KeepBut w w' g none := by
 have HI0 := Aside0.mk hI
 have HK := Aside0.mk (KeepBut.refl w g none)
 have HL := Aside0.mk hB.size
 clear hI
 have HW0 := Aside0.mk hB.size
 have HB := Aside0.mk hB
 clear hB
 have H : (if a1 > 5000 then (spec_l01Text.j0 k 5000 s0_0 s0_1 s0_2) else (spec_l01Text.j0 k a1 s0_0 s0_1 s0_2)) = some (r1, r2, r3) := h
 clear h
 have HC3 := Aside0.mk H
 clear H
 go_enter Try.func67, Try.ntmps67
 go_upto_if 8 with (fail)
 go_cut [1] (fun v1 wc => ∃ (kq : Nat) (x1_2 : Int), v1 = .int .i64 x1_2 ∧ Aside0 (spec_l01Text.j0 kq x1_2 s0_0 s0_1 s0_2 = some (r1, r2, r3)) ∧ Aside0 (kq ≤ k) ∧ Aside0 (IsS93 w0 wc g s0_0 s0_1 s0_2) ∧ Aside0 (KeepBut w wc g none) ∧ Aside0 (Below w0.heap.size w0 wc))
 case first =>
  have H := HC3.out
  clear HC3
  by_cases c4 : a1 > 5000
  ·rw [if_pos c4] at H
   have c4b0 : decide (5000 < a1) = true := decide_eq_true c4
   clear c4
   (first | rw [c4b0] | (simp only [i64_w, i32_w]; rw [c4b0]) | skip)
   have H' := Aside0.mk H
   clear H
   go_wp2
   go_meet
   case rel => exact ⟨_, (5000), (by first | rfl | (simp; done) | (simp [*]; done)), H', ⟨by first | omega | exact Nat.le_refl _⟩, ⟨(i93_0 HI0)⟩, ⟨(zq0 HK)⟩, ⟨(zb1 HB.out (IsS93.ge HI0.out))⟩⟩
  ·rw [if_neg c4] at H
   have c4b0 : decide (5000 < a1) = false := decide_eq_false c4
   clear c4
   (first | rw [c4b0] | (simp only [i64_w, i32_w]; rw [c4b0]) | skip)
   have H' := Aside0.mk H
   clear H
   go_wp2
   go_meet
   case rel => exact ⟨_, (a1), (by first | rfl | (simp; done) | (simp [*]; done)), H', ⟨by first | omega | exact Nat.le_refl _⟩, ⟨(i93_0 HI0)⟩, ⟨(zq0 HK)⟩, ⟨(zb1 HB.out (IsS93.ge HI0.out))⟩⟩
 case rest =>
  clear HC3
  obtain ⟨kq, x1_2, rfl, HA, HJ2, HI0, HK, HB⟩ := hcut
  cases kq with
  | zero => exact absurd HA.out (by simp [spec_l01Text.j0])
  | succ kj2 =>
   have H := HA.out
   clear HA
   simp only [spec_l01Text.j0] at H
   obtain ⟨y258, hy258⟩ : ∃ y_ : List Int, y_ = (([] : List Int)) := ⟨_, rfl⟩
   replace H : (spec_l01Text.l0 kj2 x1_2 y258 0 s0_0 s0_1 s0_2) = some (r1, r2, r3) := by first | (rw [hy258]; with_reducible exact H) | (have H2_ := (Option.bind_some _ _).symm.trans H; rw [hy258]; with_reducible exact H2_) | (have H2_ := (Option.bind_some _ _).symm.trans H; with_reducible exact H2_) | with_reducible exact H | (rw [hy258]; exact H) | exact H
   have Ny258 := Aside0.mk hy258
   clear hy258
   have H' := Aside0.mk H
   clear H
   go_wp2_with (first | ((with_reducible refine gate_dst (N := 9) rfl ?_); refine Kd.R_lit (Kd.int .u8) _ 5 ?hg (N := 9) ?hd (xs := ([] : List Int)) (inner := []) (ok := fun _ => True) (okp := fun _ => True) ?hr ?hp (fun _ hk => hk) trivial (Below.refl _ _) (Nat.le_refl _) (by simp) ?_; (case hd => rfl); (case hg => rfl); (case hr => first | (go_simp; done) | (go_simp; rfl)); (case hp => exact (Reps.none _ _)); intro v259 w5 ho6 hb hg_ hnew_; clear hg_ hnew_; (first | rw [← Ny258.out] at ho6 | (simp only [Int.reduceToNat] at ho6; rw [← Ny258.out] at ho6)); have HO260 := am (Kd.R_lower ho6 (keep_size (w := w) (g := g) (row := none) (zq0 HK))); replace HK := am (KeepBut.trans (zq0 HK) (KeepBut.of_below hb g none) (.inl rfl)); replace HB := am (below_step ((zb1 HB.out (IsS93.ge HI0.out))) hb); replace HI0 := am (IsS93.below (i93_0 HI0) hb); clear hb ho6))
   go_loopg [5, 6] kj2 (fun kq v5 v6 w' => ∃ (x5_2 : List Int) (x6_2 : Int) (x1001_2 : Int) (x1002_2 : Int), v6 = .int .i64 x6_2 ∧ Aside0 (spec_l01Text.l0 kq x1_2 x5_2 x6_2 s0_0 x1001_2 x1002_2 = some (r1, r2, r3)) ∧ Aside0 (kq ≤ kj2) ∧ Aside0 (Kd.R (Kd.int .u8) 5 w' w.heap.size (fun _ => True) v5 x5_2) ∧ Aside0 (IsS93 w0 w' g s0_0 x1001_2 x1002_2) ∧ Aside0 (KeepBut w w' g none) ∧ Aside0 (Below w0.heap.size w0 w'))
   case atStart => exact ⟨(y258), (0), (s0_1), (s0_2), (by first | rfl | (simp; done) | (simp [*]; done)), H', ⟨Nat.le_refl _⟩, ⟨rx HO260.out⟩, ⟨(i93_0 HI0)⟩, ⟨(zq0 HK)⟩, ⟨(zb1 HB.out (IsS93.ge HI0.out))⟩⟩
   case round =>
    clear H'
    obtain ⟨x5_2, x6_2, x1001_2, x1002_2, rfl, HA, HK2, HO_5, HI0, HK, HB⟩ := hrel
    cases gk with
    | zero => exact absurd HA.out (by simp [spec_l01Text.l0])
    | succ k2 =>
     have H := HA.out
     clear HA
     simp only [spec_l01Text.l0] at H
     by_cases c7 : x6_2 < x1_2
     ·rw [if_pos c7] at H
      have c7b0 : decide (x6_2 < x1_2) = true := decide_eq_true c7
      have c7b1 : decide (x1_2 ≤ x6_2) = false := decide_eq_false (by omega)
      clear c7
      replace H := Option.bind_eq_some_iff.mp H
      obtain ⟨⟨t261, t262, t263⟩, A80, H⟩ := H
      try dsimp only at H
      have A8 := Aside0.mk A80
      clear A80
      by_cases c9 : x5_2.length < 140737488355328
      ·rw [if_pos c9] at H
       have LMc9 := Aside0.mk c9
       clear c9
       obtain ⟨y264, hy264⟩ : ∃ y_ : List Int, y_ = (x5_2 ++ [(t261) % 256]) := ⟨_, rfl⟩
       replace H : (spec_l01Text.l0 k2 x1_2 y264 (wrap64 (x6_2 + 1)) s0_0 t262 t263) = some (r1, r2, r3) := by first | (rw [hy264]; with_reducible exact H) | (have H2_ := (Option.bind_some _ _).symm.trans H; rw [hy264]; with_reducible exact H2_) | (have H2_ := (Option.bind_some _ _).symm.trans H; with_reducible exact H2_) | with_reducible exact H | (rw [hy264]; exact H) | exact H
       have Ny264 := Aside0.mk hy264
       clear hy264
       have H' := Aside0.mk H
       clear H
       go_wp2_with (first | ((with_reducible refine gate_callee (f := 77) rfl ?_); refine goesL_ (some 17) rfl rfl Try.func77 (by kernel_rfl) rfl #[.pointer (some ⟨g, 0, none⟩)] rfl zr ?_; (with_reducible refine (spec_l01Byte.calls g s0_0 x1001_2 x1002_2 t261 t262 t263 w0 _ ?side1 ?side2 A8.out).mono ?_); (case side1 => exact i93_0 HI0); (case side2 => exact zb1 HB.out (IsS93.ge HI0.out)); rintro e w10 ⟨rfl, hi, hb, hk⟩; refine ⟨_, rfl, ?_⟩; replace HO_5 := i93_r hk (show IsS93 w0 _ g s0_0 x1001_2 x1002_2 from (i93_0 HI0)) HO_5; replace HK := zqt hk (zq0 HK); replace HB := am (hb); replace HI0 := am (hi); clear hb hk hi) | ((with_reducible refine gate_builtin (b := .append) (xs := #[.tmp 15, .tmp 19]) rfl ?_); at_builtin; refine Kd.R_append (Kd.int .u8) w.heap.size rfl (.tmp 15) (.tmp 19) 49 5 (.int .u8 0) 1 rfl Try.underlying49 info5 rfl (by decide) (by omega) u5 x5_2 ((t261) % 256) [.int .u8 ((t261) % 256)] (fun _ => True) (fun _ => False) rfl rfl ?aP (fun _ hk => hk.elim) ?aF ?aO (Below.refl _ _) ?aS ?aL ?_; (case aP => exact rfl); (case aF => exact (fun _ _ => trivial)); (case aO => exact (rx HO_5.out)); (case aS => exact (keep_size (w := w) (g := g) (row := none) (zq0 HK))); (case aL => have := LMc9.out; omega); intro v265 w11 ho hb hg hat; rw [← Ny264.out] at ho; have HO266 := am (ho); replace HB := am (below_weaken ((zb1 HB.out (IsS93.ge HI0.out))) HL.out hb); replace HI0 := am (IsS93.grown (i93_0 HI0) hg (IsS93.own_ne HI0.out HO_5.out (by decide))); replace HK := am (KeepBut.trans (zq0 HK) (KeepBut.of_grown hg g) (Kd.R_base2 HO_5.out)); clear HO_5; clear ho hb hg hat))
       go_roundg k2
       case measure => have := HJ2.out; have := HK2.out; omega
       case rel => exact ⟨(y264), (wrap64 (x6_2 + 1)), (t262), (t263), (by first | rfl | (simp; done) | (simp [*]; done)), H', ⟨by have := HJ2.out; have := HK2.out; omega⟩, ⟨rx HO266.out⟩, ⟨(i93_0 HI0)⟩, ⟨(zq0 HK)⟩, ⟨(zb1 HB.out (IsS93.ge HI0.out))⟩⟩
      ·rw [if_neg c9] at H
       exact absurd H (by simp)
     ·rw [if_neg c7] at H
      have c7b0 : decide (x6_2 < x1_2) = false := decide_eq_false c7
      have c7b1 : decide (x1_2 ≤ x6_2) = true := decide_eq_true (by omega)
      clear c7
      simp only [Option.some.injEq, Prod.mk.injEq] at H
      obtain ⟨rfl, rfl, rfl⟩ := H
      have hcv12 := own_string (P := Try.prog) Try.underlying49 Try.underlying5 Try.underlying9 (Kd.own_of_R HO_5.out)
      go_wp2
      go_ret
      exact ⟨by first | rfl | (simp [errW_none, errW_some] <;> rfl) | (simp [*, errW_none, errW_some] <;> rfl), (i93_0 HI0), (zb1 HB.out (IsS93.ge HI0.out)), (zq0 HK)⟩

/-! ### spec_l01Pick: function 70 -/
def spec_l01Pick.f (s0_0 : List Int) (s0_1 : Int) (s0_2 : Int) (l1 : List ByteArray) : Option (ByteArray × Int × Int) := (spec_l01Below.f s0_0 s0_1 s0_2 (l1.length : Int)).bind fun bt267 => (if 0 ≤ bt267.1 then (if bt267.1 < (l1.length : Int) then (some (rdOf ByteArray.empty l1 bt267.1, bt267.2.1, bt267.2.2)) else (none)) else (none))
set_option maxHeartbeats 8000000 in
set_option maxRecDepth 100000 in
theorem spec_l01Pick.calls (g : Nat) (s0_0 : List Int) (s0_1 : Int) (s0_2 : Int) (A1 : Option Addr) (c1 : Nat) (l1 : List ByteArray) (r1 : ByteArray) (r2 : Int) (r3 : Int) (w0 w : World) (hI : IsS93 w0 w g s0_0 s0_1 s0_2) (hB : Below w0.heap.size w0 w) (hr1 : Kd.C Kd.string w A1 l1.length l1) (hc1 : l1.length ≤ c1) (hf1 : ∀ ad, A1 = some ad → 0 < l1.length → ad.block ≠ g) (h : spec_l01Pick.f s0_0 s0_1 s0_2 l1 = some (r1, r2, r3)) :
  Calls Try.prog 70 #[.pointer (some ⟨g, 0, none⟩), .slice A1 l1.length c1] w fun e w' => e = .returned (.string r1) ∧ IsS93 w0 w' g s0_0 r2 r3 ∧ Below w0.heap.size w0 w' ∧ KeepBut w w' g none := by
 have HR1 := Aside0.mk hr1
 have HC1 := Aside0.mk hc1
 clear hr1 hc1
 have HI0 := Aside0.mk hI
 have HK := Aside0.mk (KeepBut.refl w g none)
 have HL := Aside0.mk hB.size
 clear hI
 have HW0 := Aside0.mk hB.size
 have HB := Aside0.mk hB
 clear hB
 have H : ((spec_l01Below.f s0_0 s0_1 s0_2 (l1.length : Int)).bind fun bt267 => (if 0 ≤ bt267.1 then (if bt267.1 < (l1.length : Int) then (some (rdOf ByteArray.empty l1 bt267.1, bt267.2.1, bt267.2.2)) else (none)) else (none))) = some (r1, r2, r3) := h
 clear h
 replace H := Option.bind_eq_some_iff.mp H
 obtain ⟨⟨t267, t268, t269⟩, A30, H⟩ := H
 try dsimp only at H
 have A3 := Aside0.mk A30
 clear A30
 by_cases c4 : 0 ≤ t267
 ·rw [if_pos c4] at H
  have c4b0 : decide (0 ≤ t267) = true := decide_eq_true c4
  clear c4
  by_cases c5 : t267 < (l1.length : Int)
  ·rw [if_pos c5] at H
   have c5b0 : decide (t267 < (l1.length : Int)) = true := decide_eq_true c5
   have c5b1 : decide ((l1.length : Int) ≤ t267) = false := decide_eq_false (by omega)
   clear c5
   simp only [Option.some.injEq, Prod.mk.injEq] at H
   obtain ⟨rfl, rfl, rfl⟩ := H
   go_enter Try.func70, Try.ntmps70
   go_wp2_with (first | ((with_reducible refine gate_callee (f := 66) rfl ?_); refine goesL_ (some 9) rfl rfl Try.func66 (by kernel_rfl) rfl #[.pointer (some ⟨g, 0, none⟩), .int .i64 (l1.length : Int)] rfl zr ?_; (with_reducible refine (spec_l01Below.calls g s0_0 s0_1 s0_2 (l1.length : Int) t267 t268 t269 w0 _ ?side1 ?side2 A3.out).mono ?_); (case side1 => exact i93_0 HI0); (case side2 => exact zb1 HB.out (IsS93.ge HI0.out)); rintro e w6 ⟨rfl, hi, hb, hk⟩; refine ⟨_, rfl, ?_⟩; replace HK := zqt hk (zq0 HK); replace HB := am (hb); replace HI0 := am (hi); clear hb hk hi; have p270 : 0 ≤ (t267 : Int) := zpq; have q270 : t267 < (l1.length : Int) := zpq; obtain ⟨ad270, e270, hx270_0⟩ := Kd.at_string HR1.out t267 p270 q270; cases e270; replace hx270_0 := keep_cell HK.out hx270_0 (by first | (rw [add_block]; exact hf1 _ rfl (by omega)) | exact hf1 _ rfl (by omega) | exact hf1 ad270 rfl (by omega)); replace p270 := eq_true p270; replace q270 := eq_true q270))
   go_ret
   exact ⟨by first | rfl | (simp [errW_none, errW_some] <;> rfl) | (simp [*, errW_none, errW_some] <;> rfl), (i93_0 HI0), (zb1 HB.out (IsS93.ge HI0.out)), (zq0 HK)⟩
  ·rw [if_neg c5] at H
   exact absurd H (by simp)
 ·rw [if_neg c4] at H
  exact absurd H (by simp)

/-! ### spec_l03Named: function 68 -/
def spec_l03Named.f (s0_0 : List Int) (s0_1 : Int) (s0_2 : Int) : Option (ByteArray × Int × Int) := (spec_l01Pick.f s0_0 s0_1 s0_2 (([(⟨#[97]⟩ : ByteArray), (⟨#[98]⟩ : ByteArray), (⟨#[99]⟩ : ByteArray), (⟨#[106, 48]⟩ : ByteArray), (⟨#[106, 49]⟩ : ByteArray), (⟨#[106, 43]⟩ : ByteArray), (⟨#[115, 48]⟩ : ByteArray), (⟨#[115, 43]⟩ : ByteArray)] : List ByteArray))).bind fun bt274 => (some (bt274.1, bt274.2.1, bt274.2.2))
set_option maxHeartbeats 8000000 in
set_option maxRecDepth 100000 in
theorem spec_l03Named.calls (g : Nat) (s0_0 : List Int) (s0_1 : Int) (s0_2 : Int) (r1 : ByteArray) (r2 : Int) (r3 : Int) (w0 w : World) (hI : IsS93 w0 w g s0_0 s0_1 s0_2) (hB : Below w0.heap.size w0 w) (h : spec_l03Named.f s0_0 s0_1 s0_2 = some (r1, r2, r3)) :
  Calls Try.prog 68 #[.pointer (some ⟨g, 0, none⟩)] w fun e w' => e = .returned (.string r1) ∧ IsS93 w0 w' g s0_0 r2 r3 ∧ Below w0.heap.size w0 w' ∧ KeepBut w w' g none := by
 have HI0 := Aside0.mk hI
 have HK := Aside0.mk (KeepBut.refl w g none)
 have HL := Aside0.mk hB.size
 clear hI
 have HW0 := Aside0.mk hB.size
 have HB := Aside0.mk hB
 clear hB
 have H : ((spec_l01Pick.f s0_0 s0_1 s0_2 (([(⟨#[97]⟩ : ByteArray), (⟨#[98]⟩ : ByteArray), (⟨#[99]⟩ : ByteArray), (⟨#[106, 48]⟩ : ByteArray), (⟨#[106, 49]⟩ : ByteArray), (⟨#[106, 43]⟩ : ByteArray), (⟨#[115, 48]⟩ : ByteArray), (⟨#[115, 43]⟩ : ByteArray)] : List ByteArray))).bind fun bt274 => (some (bt274.1, bt274.2.1, bt274.2.2))) = some (r1, r2, r3) := h
 clear h
 obtain ⟨y271, hy271⟩ : ∃ y_ : List ByteArray, y_ = (([(⟨#[97]⟩ : ByteArray), (⟨#[98]⟩ : ByteArray), (⟨#[99]⟩ : ByteArray), (⟨#[106, 48]⟩ : ByteArray), (⟨#[106, 49]⟩ : ByteArray), (⟨#[106, 43]⟩ : ByteArray), (⟨#[115, 48]⟩ : ByteArray), (⟨#[115, 43]⟩ : ByteArray)] : List ByteArray)) := ⟨_, rfl⟩
 replace H : ((spec_l01Pick.f s0_0 s0_1 s0_2 y271).bind fun bt274 => (some (bt274.1, bt274.2.1, bt274.2.2))) = some (r1, r2, r3) := by first | (rw [hy271]; with_reducible exact H) | (have H2_ := (Option.bind_some _ _).symm.trans H; rw [hy271]; with_reducible exact H2_) | (have H2_ := (Option.bind_some _ _).symm.trans H; with_reducible exact H2_) | with_reducible exact H | (rw [hy271]; exact H) | exact H
 have Ny271 := Aside0.mk hy271
 clear hy271
 replace H := Option.bind_eq_some_iff.mp H
 obtain ⟨⟨t274, t275, t276⟩, A20, H⟩ := H
 try dsimp only at H
 have A2 := Aside0.mk A20
 clear A20
 simp only [Option.some.injEq, Prod.mk.injEq] at H
 obtain ⟨rfl, rfl, rfl⟩ := H
 go_enter Try.func68, Try.ntmps68
 go_wp2_with (first | ((with_reducible refine gate_dst (N := 4) rfl ?_); refine Kd.R_lit Kd.string _ 9 ?hg (N := 4) ?hd (xs := ([(⟨#[97]⟩ : ByteArray), (⟨#[98]⟩ : ByteArray), (⟨#[99]⟩ : ByteArray), (⟨#[106, 48]⟩ : ByteArray), (⟨#[106, 49]⟩ : ByteArray), (⟨#[106, 43]⟩ : ByteArray), (⟨#[115, 48]⟩ : ByteArray), (⟨#[115, 43]⟩ : ByteArray)] : List ByteArray)) (inner := [.string (⟨#[97]⟩ : ByteArray), .string (⟨#[98]⟩ : ByteArray), .string (⟨#[99]⟩ : ByteArray), .string (⟨#[106, 48]⟩ : ByteArray), .string (⟨#[106, 49]⟩ : ByteArray), .string (⟨#[106, 43]⟩ : ByteArray), .string (⟨#[115, 48]⟩ : ByteArray), .string (⟨#[115, 43]⟩ : ByteArray)]) (ok := fun _ => True) (okp := fun _ => True) ?hr ?hp (fun _ hk => hk) trivial (Below.refl _ _) (Nat.le_refl _) (by simp) ?_; (case hd => rfl); (case hg => rfl); (case hr => first | (go_simp; done) | (go_simp; rfl)); (case hp => exact (Reps.one (show Kd.M Kd.string _ _ _ (⟨#[97]⟩ : ByteArray) [.string (⟨#[97]⟩ : ByteArray)] from rfl) (Reps.one (show Kd.M Kd.string _ _ _ (⟨#[98]⟩ : ByteArray) [.string (⟨#[98]⟩ : ByteArray)] from rfl) (Reps.one (show Kd.M Kd.string _ _ _ (⟨#[99]⟩ : ByteArray) [.string (⟨#[99]⟩ : ByteArray)] from rfl) (Reps.one (show Kd.M Kd.string _ _ _ (⟨#[106, 48]⟩ : ByteArray) [.string (⟨#[106, 48]⟩ : ByteArray)] from rfl) (Reps.one (show Kd.M Kd.string _ _ _ (⟨#[106, 49]⟩ : ByteArray) [.string (⟨#[106, 49]⟩ : ByteArray)] from rfl) (Reps.one (show Kd.M Kd.string _ _ _ (⟨#[106, 43]⟩ : ByteArray) [.string (⟨#[106, 43]⟩ : ByteArray)] from rfl) (Reps.one (show Kd.M Kd.string _ _ _ (⟨#[115, 48]⟩ : ByteArray) [.string (⟨#[115, 48]⟩ : ByteArray)] from rfl) (Reps.one (show Kd.M Kd.string _ _ _ (⟨#[115, 43]⟩ : ByteArray) [.string (⟨#[115, 43]⟩ : ByteArray)] from rfl) (Reps.none _ _)))))))))); intro v272 w3 ho4 hb hg_ hnew_; clear hg_ hnew_; (first | rw [← Ny271.out] at ho4 | (simp only [Int.reduceToNat] at ho4; rw [← Ny271.out] at ho4)); have HO273 := am (Kd.R_lower ho4 (keep_size (w := w) (g := g) (row := none) (zq0 HK))); replace HK := am (KeepBut.trans (zq0 HK) (KeepBut.of_below hb g none) (.inl rfl)); replace HB := am (below_step ((zb1 HB.out (IsS93.ge HI0.out))) hb); replace HI0 := am (IsS93.below (i93_0 HI0) hb); clear hb ho4; obtain ⟨Ao5, co5, eo5⟩ := Kd.R_slice HO273.out; subst eo5) | ((with_reducible refine gate_callee (f := 70) rfl ?_); refine goesL_ (some 5) rfl rfl Try.func70 (by kernel_rfl) rfl #[.pointer (some ⟨g, 0, none⟩), .slice Ao5 y271.length co5] rfl zr ?_; (with_reducible refine (spec_l01Pick.calls g s0_0 s0_1 s0_2 _ _ y271 t274 t275 t276 w0 _ ?side1 ?side2 ?side3 ?side4 ?side5 A2.out).mono ?_); (case side1 => exact i93_0 HI0); (case side2 => exact zb1 HB.out (IsS93.ge HI0.out)); (case side3 => repeat (first | exact (Kd.R_reads' HO273.out).2.2 | (with_reducible refine Kd.C_alloc ?_ _) | (with_reducible refine Kd.C_drewN ?_ _) | (with_reducible refine Kd.C_drew ?_))); (case side4 => exact (Kd.R_reads' HO273.out).2.1); (case side5 => exact far_slice (IsS93.own_ne HI0.out HO273.out (by decide))); rintro e w6 ⟨rfl, hi, hb, hk⟩; refine ⟨_, rfl, ?_⟩; replace HO273 := i93_r hk (show IsS93 w0 _ g s0_0 s0_1 s0_2 from (i93_0 HI0)) HO273; replace HK := zqt hk (zq0 HK); replace HB := am (hb); replace HI0 := am (hi); clear hb hk hi))
 go_ret
 exact ⟨by first | rfl | (simp [errW_none, errW_some] <;> rfl) | (simp [*, errW_none, errW_some] <;> rfl), (i93_0 HI0), (zb1 HB.out (IsS93.ge HI0.out)), (zq0 HK)⟩

/-! ### spec_l01PickInt: function 69 -/
def spec_l01PickInt.f (s0_0 : List Int) (s0_1 : Int) (s0_2 : Int) (l1 : List Int) : Option (Int × Int × Int) := (spec_l01Below.f s0_0 s0_1 s0_2 (l1.length : Int)).bind fun bt277 => (if 0 ≤ bt277.1 then (if bt277.1 < (l1.length : Int) then (some (rd l1 bt277.1, bt277.2.1, bt277.2.2)) else (none)) else (none))
set_option maxHeartbeats 8000000 in
set_option maxRecDepth 100000 in
theorem spec_l01PickInt.calls (g : Nat) (s0_0 : List Int) (s0_1 : Int) (s0_2 : Int) (A1 : Option Addr) (c1 : Nat) (l1 : List Int) (r1 : Int) (r2 : Int) (r3 : Int) (w0 w : World) (hI : IsS93 w0 w g s0_0 s0_1 s0_2) (hB : Below w0.heap.size w0 w) (hr1 : Kd.C (Kd.int .i64) w A1 l1.length l1) (hc1 : l1.length ≤ c1) (hf1 : ∀ ad, A1 = some ad → 0 < l1.length → ad.block ≠ g) (h : spec_l01PickInt.f s0_0 s0_1 s0_2 l1 = some (r1, r2, r3)) :
  Calls Try.prog 69 #[.pointer (some ⟨g, 0, none⟩), .slice A1 l1.length c1] w fun e w' => e = .returned (.int .i64 r1) ∧ IsS93 w0 w' g s0_0 r2 r3 ∧ Below w0.heap.size w0 w' ∧ KeepBut w w' g none := by
 have HR1 := Aside0.mk hr1
 have HC1 := Aside0.mk hc1
 clear hr1 hc1
 have HI0 := Aside0.mk hI
 have HK := Aside0.mk (KeepBut.refl w g none)
 have HL := Aside0.mk hB.size
 clear hI
 have HW0 := Aside0.mk hB.size
 have HB := Aside0.mk hB
 clear hB
 have H : ((spec_l01Below.f s0_0 s0_1 s0_2 (l1.length : Int)).bind fun bt277 => (if 0 ≤ bt277.1 then (if bt277.1 < (l1.length : Int) then (some (rd l1 bt277.1, bt277.2.1, bt277.2.2)) else (none)) else (none))) = some (r1, r2, r3) := h
 clear h
 replace H := Option.bind_eq_some_iff.mp H
 obtain ⟨⟨t277, t278, t279⟩, A30, H⟩ := H
 try dsimp only at H
 have A3 := Aside0.mk A30
 clear A30
 by_cases c4 : 0 ≤ t277
 ·rw [if_pos c4] at H
  have c4b0 : decide (0 ≤ t277) = true := decide_eq_true c4
  clear c4
  by_cases c5 : t277 < (l1.length : Int)
  ·rw [if_pos c5] at H
   have c5b0 : decide (t277 < (l1.length : Int)) = true := decide_eq_true c5
   have c5b1 : decide ((l1.length : Int) ≤ t277) = false := decide_eq_false (by omega)
   clear c5
   simp only [Option.some.injEq, Prod.mk.injEq] at H
   obtain ⟨rfl, rfl, rfl⟩ := H
   go_enter Try.func69, Try.ntmps69
   go_wp2_with (first | ((with_reducible refine gate_callee (f := 66) rfl ?_); refine goesL_ (some 9) rfl rfl Try.func66 (by kernel_rfl) rfl #[.pointer (some ⟨g, 0, none⟩), .int .i64 (l1.length : Int)] rfl zr ?_; (with_reducible refine (spec_l01Below.calls g s0_0 s0_1 s0_2 (l1.length : Int) t277 t278 t279 w0 _ ?side1 ?side2 A3.out).mono ?_); (case side1 => exact i93_0 HI0); (case side2 => exact zb1 HB.out (IsS93.ge HI0.out)); rintro e w6 ⟨rfl, hi, hb, hk⟩; refine ⟨_, rfl, ?_⟩; replace HK := zqt hk (zq0 HK); replace HB := am (hb); replace HI0 := am (hi); clear hb hk hi; have p280 : 0 ≤ (t277 : Int) := zpq; have q280 : t277 < (l1.length : Int) := zpq; obtain ⟨ad280, e280, hx280_0⟩ := Kd.at_int HR1.out t277 p280 q280; cases e280; replace hx280_0 := keep_cell HK.out hx280_0 (by first | (rw [add_block]; exact hf1 _ rfl (by omega)) | exact hf1 _ rfl (by omega) | exact hf1 ad280 rfl (by omega)); replace p280 := eq_true p280; replace q280 := eq_true q280))
   go_ret
   exact ⟨by first | rfl | (simp [errW_none, errW_some] <;> rfl) | (simp [*, errW_none, errW_some] <;> rfl), (i93_0 HI0), (zb1 HB.out (IsS93.ge HI0.out)), (zq0 HK)⟩
  ·rw [if_neg c5] at H
   exact absurd H (by simp)
 ·rw [if_neg c4] at H
  exact absurd H (by simp)

/-! ### spec_l01Figure: function 78 -/
def spec_l01Figure.f (a0 : Int) : Option (Int) := if a0 < 10 then (some ((wrap64 (48 + a0)) % 256)) else (some ((wrap64 ((wrap64 (97 + a0)) - 10)) % 256))
set_option maxHeartbeats 8000000 in
set_option maxRecDepth 100000 in
theorem spec_l01Figure.calls (a0 : Int) (r : Int) (w : World) (h : spec_l01Figure.f a0 = some r) :
  Calls Try.prog 78 #[.int .i64 a0] w fun e w' => e = .returned (.int .u8 r) ∧ Drawn0 w w' := by
 have H : (if a0 < 10 then (some ((wrap64 (48 + a0)) % 256)) else (some ((wrap64 ((wrap64 (97 + a0)) - 10)) % 256))) = some r := h
 clear h
 by_cases c2 : a0 < 10
 ·rw [if_pos c2] at H
  have c2b0 : decide (a0 < 10) = true := decide_eq_true c2
  clear c2
  obtain rfl := Option.some.inj H
  go_enter Try.func78, Try.ntmps78
  go_wp2
  go_ret
  exact ⟨by first | rfl | (simp; done) | (simp [*]; done), by repeat (first | exact Drawn0.refl _ | apply Drawn0.step)⟩
 ·rw [if_neg c2] at H
  have c2b0 : decide (a0 < 10) = false := decide_eq_false c2
  clear c2
  obtain rfl := Option.some.inj H
  go_enter Try.func78, Try.ntmps78
  go_wp2
  go_ret
  exact ⟨by first | rfl | (simp; done) | (simp [*]; done), by repeat (first | exact Drawn0.refl _ | apply Drawn0.step)⟩

end Go.Proofs.Ytklbkkoojkmjbaa.QFnActs
