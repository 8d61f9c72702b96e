/- Written by the kit's print.py, called by our own print2.sh with one import more; not by print.sh. -/
import Derived.Test.YtklbkkoojkmjbaaQFnActsx0
import Derived.Test.YtklbkkoojkmjbaaQFnActsx4
import Derived.Test.YtklbkkoojkmjbaaQFnActsx9
import Derived.Test.YtklbkkoojkmjbaaQFnActsx10
import Derived.Test.YtklbkkoojkmjbaaQFnActsx13
import Derived.Test.YtklbkkoojkmjbaaQFnActsx14
import Derived.Test.YtklbkkoojkmjbaaQFnActsx16
import Derived.Test.YtklbkkoojkmjbaaQFnActsx18
namespace Go.Proofs.Ytklbkkoojkmjbaa.QFnActs
open Go.RowKit Go.Proofs.YtklbkkoojkmjbaaW.PrintWords Go.Proofs.YtklbkkoojkmjbaaW.PrintLast Go.Proofs.YtklbkkoojkmjbaaW.PrintMore
attribute [local go_sem] max2_int min2_int max_two min_two max_three min_three max_four min_four   -- for this text's walks alone
open Go.Proofs.Ytklbkkoojkmjbaa.Short
set_option linter.unusedVariables false
set_option linter.unusedSimpArgs false

/-! ### laws_FnActs: function 5 -/
mutual
def laws_FnActs.j0 : Nat → List (S35) → Int → List Int → Int → Bool → List (S66) → List (S66) → Option (Bool)
 | 0, _, _, _, _, _, _, _ => none
 | k + 1, x4, x5, x6, x8, x52, x546000, x551000 => if x52 = true then (some false) else (laws_FnActs.l0 k x4 x5 x6 x8 0 x546000 x551000 x546000)
def laws_FnActs.l0 : Nat → List (S35) → Int → List Int → Int → Int → List (S66) → List (S66) → List (S66) → Option (Bool)
 | 0, _, _, _, _, _, _, _, _ => none
 | k + 1, x4, x5, x6, x8, x12, x546000, x551000, x558000 => if x12 < x8 then (if 0 ≤ x12 then (if x12 < (x4.length : Int) then ((impl_DoAct.f k x558000 ((rd_T35 x4 x12).f0) ((rd_T35 x4 x12).f1) ((rd_T35 x4 x12).f2) ((rd_T35 x4 x12).f3)).bind fun bt559 => (if bt559.2 = true then ((impl_FileAt.f x558000 ((rd_T35 x4 x12).f1)).bind fun bt565 => ((impl_FileAt.f bt559.1 ((rd_T35 x4 x12).f1)).bind fun bt568 => (if ((rd_T35 x4 x12).f0) = 1 then (if bt568.2 = true then (if bt565.1.size + ((rd_T35 x4 x12).f2).size ≤ 9223372036854775807 then (if bt568.1.toList = (bt565.1 ++ ((rd_T35 x4 x12).f2)).toList then (if ((rd_T35 x4 x12).f0) = 4 then (some false) else (laws_FnActs.l0 k x4 x5 x6 x8 (wrap64 (x12 + 1)) x546000 x551000 bt559.1)) else (some false)) else (none)) else (some false)) else (if ((rd_T35 x4 x12).f0) = 4 then (if bt568.2 = true then (some false) else (laws_FnActs.l0 k x4 x5 x6 x8 (wrap64 (x12 + 1)) x546000 x551000 bt559.1)) else (laws_FnActs.l0 k x4 x5 x6 x8 (wrap64 (x12 + 1)) x546000 x551000 bt559.1))))) else (some false))) else (none)) else (none)) else ((impl_CutActs.f k x546000 x4 x5 x6).bind fun bt574 => ((spec_CutActs.f k x546000 x4 x5 x6).bind fun bt579 => (if (bt574.2 == bt579.2) = true then ((laws_sameDisk.f k bt574.1 bt579.1).bind fun t584 => (if t584 = true then (if x8 = 0 then (some true) else ((laws_sameDisk.f k x558000 x551000).bind fun t585 => (some t585))) else (some false))) else (some false))))
end
def laws_FnActs.f (k : Nat) (l0 : List Int) : Option (Bool) := (laws_big.f l0).bind fun t534 => (if t534 = true then (some true) else ((spec_DrawCutActs.f k l0).bind fun bt535 => ((impl_DoActs.f k bt535.1 bt535.2.1).bind fun bt546 => ((spec_DoActs.f k bt535.1 bt535.2.1).bind fun bt551 => (if bt546.2 = bt551.2 then ((laws_sameDisk.f k bt546.1 bt551.1).bind fun t556 => (laws_FnActs.j0 k bt535.2.1 bt535.2.2.1 bt535.2.2.2 bt546.2 (!t556) bt535.1 bt546.1)) else (laws_FnActs.j0 k bt535.2.1 bt535.2.2.1 bt535.2.2.2 bt546.2 true bt535.1 bt546.1))))))
theorem laws_FnActs.mono_l : ∀ k, (∀ y0 y1 y2 y3 y4 y5 y6, LeO (laws_FnActs.j0 k y0 y1 y2 y3 y4 y5 y6) (laws_FnActs.j0 (k + 1) y0 y1 y2 y3 y4 y5 y6)) ∧ (∀ y0 y1 y2 y3 y4 y5 y6 y7, LeO (laws_FnActs.l0 k y0 y1 y2 y3 y4 y5 y6 y7) (laws_FnActs.l0 (k + 1) y0 y1 y2 y3 y4 y5 y6 y7))
 | 0 => ⟨fun _ _ _ _ _ _ _ r h => by simp [laws_FnActs.j0] at h, fun _ _ _ _ _ _ _ _ r h => by simp [laws_FnActs.l0] at h⟩
 | k + 1 => by
  obtain ⟨ih0, ih1⟩ := laws_FnActs.mono_l k
  refine ⟨?_, ?_⟩
  ·intro y0 y1 y2 y3 y4 y5 y6
   unfold laws_FnActs.j0
   repeat' first
   | (with_reducible exact ih0 _ _ _ _ _ _ _)
   | (with_reducible exact ih1 _ _ _ _ _ _ _ _)
   | (with_reducible exact impl_CutActs.mono _ _ _ _ _)
   | (with_reducible exact impl_DoAct.mono _ _ _ _ _ _)
   | (with_reducible exact impl_DoActs.mono _ _ _)
   | (with_reducible exact laws_sameDisk.mono _ _ _)
   | (with_reducible exact spec_CutActs.mono _ _ _ _ _)
   | (with_reducible exact spec_DoActs.mono _ _ _)
   | (with_reducible exact spec_DrawCutActs.mono _ _)
   | (with_reducible exact LeO.refl _)
   | (with_reducible exact LeO.none _)
   | (with_reducible refine LeO.ite ?_ ?_)
   | (with_reducible refine LeO.bind ?_ (fun _ => ?_))
   | exact ih0 _ _ _ _ _ _ _
   | exact ih1 _ _ _ _ _ _ _ _
   | exact impl_CutActs.mono _ _ _ _ _
   | exact impl_DoAct.mono _ _ _ _ _ _
   | exact impl_DoActs.mono _ _ _
   | exact laws_sameDisk.mono _ _ _
   | exact spec_CutActs.mono _ _ _ _ _
   | exact spec_DoActs.mono _ _ _
   | exact spec_DrawCutActs.mono _ _
   | exact LeO.none _
   | refine LeO.ite ?_ ?_
   | refine LeO.bind ?_ (fun _ => ?_)
  ·intro y0 y1 y2 y3 y4 y5 y6 y7
   unfold laws_FnActs.l0
   repeat' first
   | (with_reducible exact ih0 _ _ _ _ _ _ _)
   | (with_reducible exact ih1 _ _ _ _ _ _ _ _)
   | (with_reducible exact impl_CutActs.mono _ _ _ _ _)
   | (with_reducible exact impl_DoAct.mono _ _ _ _ _ _)
   | (with_reducible exact impl_DoActs.mono _ _ _)
   | (with_reducible exact laws_sameDisk.mono _ _ _)
   | (with_reducible exact spec_CutActs.mono _ _ _ _ _)
   | (with_reducible exact spec_DoActs.mono _ _ _)
   | (with_reducible exact spec_DrawCutActs.mono _ _)
   | (with_reducible exact LeO.refl _)
   | (with_reducible exact LeO.none _)
   | (with_reducible refine LeO.ite ?_ ?_)
   | (with_reducible refine LeO.bind ?_ (fun _ => ?_))
   | exact ih0 _ _ _ _ _ _ _
   | exact ih1 _ _ _ _ _ _ _ _
   | exact impl_CutActs.mono _ _ _ _ _
   | exact impl_DoAct.mono _ _ _ _ _ _
   | exact impl_DoActs.mono _ _ _
   | exact laws_sameDisk.mono _ _ _
   | exact spec_CutActs.mono _ _ _ _ _
   | exact spec_DoActs.mono _ _ _
   | exact spec_DrawCutActs.mono _ _
   | exact LeO.none _
   | refine LeO.ite ?_ ?_
   | refine LeO.bind ?_ (fun _ => ?_)
theorem laws_FnActs.mono : ∀ a0 k, LeO (laws_FnActs.f k a0) (laws_FnActs.f (k + 1) a0) := by
 intro a0 k
 obtain ⟨ih0, ih1⟩ := laws_FnActs.mono_l k
 unfold laws_FnActs.f
 repeat' first
   | (with_reducible exact ih0 _ _ _ _ _ _ _)
   | (with_reducible exact ih1 _ _ _ _ _ _ _ _)
   | (with_reducible exact impl_CutActs.mono _ _ _ _ _)
   | (with_reducible exact impl_DoAct.mono _ _ _ _ _ _)
   | (with_reducible exact impl_DoActs.mono _ _ _)
   | (with_reducible exact laws_sameDisk.mono _ _ _)
   | (with_reducible exact spec_CutActs.mono _ _ _ _ _)
   | (with_reducible exact spec_DoActs.mono _ _ _)
   | (with_reducible exact spec_DrawCutActs.mono _ _)
   | (with_reducible exact LeO.refl _)
   | (with_reducible exact LeO.none _)
   | (with_reducible refine LeO.ite ?_ ?_)
   | (with_reducible refine LeO.bind ?_ (fun _ => ?_))
   | exact ih0 _ _ _ _ _ _ _
   | exact ih1 _ _ _ _ _ _ _ _
   | exact impl_CutActs.mono _ _ _ _ _
   | exact impl_DoAct.mono _ _ _ _ _ _
   | exact impl_DoActs.mono _ _ _
   | exact laws_sameDisk.mono _ _ _
   | exact spec_CutActs.mono _ _ _ _ _
   | exact spec_DoActs.mono _ _ _
   | exact spec_DrawCutActs.mono _ _
   | exact LeO.none _
   | refine LeO.ite ?_ ?_
   | refine LeO.bind ?_ (fun _ => ?_)
def laws_FnActs.T12 : Bool × List (List Nat × List Nat) := (true, [([], []), ([], []), ([], []), ([1, 2], [1, 2]), ([3], [3]), ([0, 4], [0, 4]), ([5], [5]), ([6], [6]), ([6], [6]), ([], []), ([9, 7, 5, 0, 1, 2, 3, 4, 5, 6, 7, 9], [7, 9]), ([8, 10, 0, 1, 2, 3, 4, 5, 6, 7, 8, 9, 10], [8])])
def laws_FnActs.B12 : List Nat := [0, 0, 0, 6, 14, 31, 63, 127, 127, 0, 767, 2047]
theorem laws_FnActs.tab12 : rtab .any (opsOf Try.f5 12) = laws_FnActs.T12 := by kernel_rfl
theorem laws_FnActs.bits12 : waitsOk laws_FnActs.T12.2 laws_FnActs.B12 = true := by kernel_rfl
def laws_FnActs.T15 : Bool × List (List Nat × List Nat) := (true, [([], []), ([], []), ([], []), ([1, 2], [1, 2]), ([3], [3]), ([4], [4]), ([0, 5], [0, 5]), ([6], [6]), ([7], [7]), ([7], [7]), ([8, 6, 0, 1, 2, 3, 4, 5, 6, 7, 8], [8]), ([9, 10, 0, 1, 2, 3, 4, 5, 6, 7, 8, 9, 10], [9])])
def laws_FnActs.B15 : List Nat := [0, 0, 0, 6, 14, 30, 63, 127, 255, 255, 511, 2047]
theorem laws_FnActs.tab15 : rtab .any (opsOf Try.f5 15) = laws_FnActs.T15 := by kernel_rfl
theorem laws_FnActs.bits15 : waitsOk laws_FnActs.T15.2 laws_FnActs.B15 = true := by kernel_rfl
def laws_FnActs.T16 : Bool × List (List Nat × List Nat) := (true, [([], []), ([], []), ([], []), ([1, 2], [1, 2]), ([3], [3]), ([4], [4]), ([0, 5], [0, 5]), ([6], [6]), ([7], [7]), ([7], [7]), ([8, 6, 0, 1, 2, 3, 4, 5, 6, 7, 8], [8]), ([9, 10, 0, 1, 2, 3, 4, 5, 6, 7, 8, 9, 10], [9])])
def laws_FnActs.B16 : List Nat := [0, 0, 0, 6, 14, 30, 63, 127, 255, 255, 511, 2047]
theorem laws_FnActs.tab16 : rtab .any (opsOf Try.f5 16) = laws_FnActs.T16 := by kernel_rfl
theorem laws_FnActs.bits16 : waitsOk laws_FnActs.T16.2 laws_FnActs.B16 = true := by kernel_rfl
set_option maxHeartbeats 8000000 in
set_option maxRecDepth 100000 in
theorem laws_FnActs.calls (k : Nat) (A0 : Option Addr) (c0 : Nat) (l0 : List Int) (r : Bool) (w : World) (hr0 : Kd.C (Kd.int .u8) w A0 l0.length l0) (hc0 : l0.length ≤ c0) (h : laws_FnActs.f k l0 = some r) (hrt : r = true := by rfl) :
  Calls Try.prog 5 #[.slice A0 l0.length c0] w fun e w' => e = .returned (.bool r) ∧ Below w.heap.size w w' := by
 have hu31 := Try.underlying31
 have hu35 := Try.underlying35
 have HR0 := Aside0.mk hr0
 have HC0 := Aside0.mk hc0
 clear hr0 hc0
 have HB := Aside0.mk (Below.refl w.heap.size w)
 have HLT := Aside0.mk hrt
 clear hrt
 have H : ((laws_big.f l0).bind fun t534 => (if t534 = true then (some true) else ((spec_DrawCutActs.f k l0).bind fun bt535 => ((impl_DoActs.f k bt535.1 bt535.2.1).bind fun bt546 => ((spec_DoActs.f k bt535.1 bt535.2.1).bind fun bt551 => (if bt546.2 = bt551.2 then ((laws_sameDisk.f k bt546.1 bt551.1).bind fun t556 => (laws_FnActs.j0 k bt535.2.1 bt535.2.2.1 bt535.2.2.2 bt546.2 (!t556) bt535.1 bt546.1)) else (laws_FnActs.j0 k bt535.2.1 bt535.2.2.1 bt535.2.2.2 bt546.2 true bt535.1 bt546.1))))))) = some r := h
 clear h
 replace H := Option.bind_eq_some_iff.mp H
 obtain ⟨t534, A20, H⟩ := H
 try dsimp only at H
 have A2 := Aside0.mk A20
 clear A20
 by_cases c3 : t534 = true
 ·subst c3
  have H1 : (some true) = some r := by rw [if_pos rfl] at H; exact H
  clear H
  have H := H1
  clear H1
  obtain rfl := Option.some.inj H
  go_enter Try.func5, Try.ntmps5
  go_wp2_with (first | ((with_reducible refine gate_callee (f := 22) rfl ?_); refine goesL_ (some 24) rfl rfl Try.func22 (by kernel_rfl) rfl #[.slice A0 l0.length c0] rfl zr ?_; (with_reducible refine (laws_big.calls _ _ l0 true _ ?side1 ?side2 A2.out).mono ?_); (case side1 => repeat (first | exact HR0.out | (with_reducible refine Kd.C_alloc ?_ _) | (with_reducible refine Kd.C_drewN ?_ _) | (with_reducible refine Kd.C_drew ?_))); (case side2 => exact HC0.out); rintro e w' ⟨rfl, ⟨nd, rfl⟩⟩; refine ⟨_, rfl, ?_⟩))
  go_ret
  exact ⟨by first | rfl | (simp [errW_none, errW_some] <;> rfl) | (simp [*, errW_none, errW_some] <;> rfl), zb0 HB.out⟩
 ·replace c3 := Bool.eq_false_iff.mpr c3
  subst c3
  have H1 : ((spec_DrawCutActs.f k l0).bind fun bt535 => ((impl_DoActs.f k bt535.1 bt535.2.1).bind fun bt546 => ((spec_DoActs.f k bt535.1 bt535.2.1).bind fun bt551 => (if bt546.2 = bt551.2 then ((laws_sameDisk.f k bt546.1 bt551.1).bind fun t556 => (laws_FnActs.j0 k bt535.2.1 bt535.2.2.1 bt535.2.2.2 bt546.2 (!t556) bt535.1 bt546.1)) else (laws_FnActs.j0 k bt535.2.1 bt535.2.2.1 bt535.2.2.2 bt546.2 true bt535.1 bt546.1))))) = some r := by rw [if_neg (show ¬ (false = true) by decide)] at H; exact H
  clear H
  have H := H1
  clear H1
  replace H := Option.bind_eq_some_iff.mp H
  obtain ⟨⟨t535, t538, t541, t542⟩, A40, H⟩ := H
  try dsimp only at H
  have A4 := Aside0.mk A40
  clear A40
  replace H := Option.bind_eq_some_iff.mp H
  obtain ⟨⟨t546, t549⟩, A50, H⟩ := H
  try dsimp only at H
  have A5 := Aside0.mk A50
  clear A50
  replace H := Option.bind_eq_some_iff.mp H
  obtain ⟨⟨t551, t554⟩, A60, H⟩ := H
  try dsimp only at H
  have A6 := Aside0.mk A60
  clear A60
  have HC7 := Aside0.mk H
  clear H
  go_enter Try.func5, Try.ntmps5
  go_upto_region 6 with (first | ((with_reducible refine gate_callee (f := 22) rfl ?_); refine goesL_ (some 24) rfl rfl Try.func22 (by kernel_rfl) rfl #[.slice A0 l0.length c0] rfl zr ?_; (with_reducible refine (laws_big.calls _ _ l0 false _ ?side1 ?side2 A2.out).mono ?_); (case side1 => repeat (first | exact HR0.out | (with_reducible refine Kd.C_alloc ?_ _) | (with_reducible refine Kd.C_drewN ?_ _) | (with_reducible refine Kd.C_drew ?_))); (case side2 => exact HC0.out); rintro e w' ⟨rfl, ⟨nd, rfl⟩⟩; refine ⟨_, rfl, ?_⟩) | ((with_reducible refine gate_callee (f := 23) rfl ?_); refine goesL_ (some 27) rfl rfl Try.func23 (by kernel_rfl) rfl #[.slice A0 l0.length c0] rfl zr ?_; (with_reducible refine (spec_DrawCutActs.calls k _ _ l0 t535 t538 t541 t542 _ ?side1 ?side2 A4.out).mono ?_); (case side1 => repeat (first | exact HR0.out | (with_reducible refine Kd.C_alloc ?_ _) | (with_reducible refine Kd.C_drewN ?_ _) | (with_reducible refine Kd.C_drew ?_))); (case side2 => exact HC0.out); rintro e w8 ⟨v536, v539, v543, rfl, ho0, ho1, ho2, hb⟩; refine ⟨_, rfl, ?_⟩; have HO537 := am (Kd.R_lower ho0 (below_size (zb0 HB.out))); have HO540 := am (Kd.R_lower ho1 (below_size (zb0 HB.out))); have HO544 := am (Kd.R_lower ho2 (below_size (zb0 HB.out))); replace HB := zs0 hb HB; clear hb ho0 ho1 ho2) | ((with_reducible refine gate_dst (N := 3) rfl ?_); refine box_event rfl (N := 3) rfl (cs := #[.slice none 0 0]) (t := 31) zrun ?_; intro gb545 hg w9 hbox hb; have BK545 := am (hbox); have GE545 := zge hg (zb0 HB.out); replace HO537 := zo hb HO537; replace HO540 := zo hb HO540; replace HO544 := zo hb HO544; replace HB := zs0 hb HB; clear hb hbox hg; obtain ⟨Ao10, co10, eo10⟩ := Kd.R_slice HO537.out; subst eo10; obtain ⟨hcz11_0, hfz11_0⟩ := zc1 BK545.out; obtain ⟨Ao12, co12, eo12⟩ := Kd.R_slice HO540.out; subst eo12) | ((with_reducible refine gate_callee (f := 19) rfl ?_); refine goesL_ (some 35) rfl rfl Try.func19 (by kernel_rfl) rfl #[.agg #[.slice Ao10 t535.length co10], .slice Ao12 t538.length co12] rfl zr ?_; (with_reducible refine (impl_DoActs.calls k _ _ t535 _ _ t538 t546 t549 _ ?side1 ?side2 ?side3 ?side4 A5.out).mono ?_); (case side1 => refine (Kd.R_reads' (e := 66) (base := w.heap.size) (ok := fun k_ => True) (n := t535.length) (c := co10) ?_).2.2; exact (rx ((zrf 0 (.slice Ao10 t535.length co10) HO537 BK545)))); (case side2 => exact (Kd.R_reads' HO537.out).2.1); (case side3 => refine (Kd.R_reads' (e := 35) (base := w.heap.size) (ok := fun k_ => True) (n := t538.length) (c := co12) ?_).2.2; exact (rx ((zrf 0 (.slice Ao10 t535.length co10) HO540 BK545)))); (case side4 => exact (Kd.R_reads' HO540.out).2.1); rintro e w13 ⟨v547, rfl, ho0, hb⟩; refine ⟨_, rfl, ?_⟩; have HO548 := am (Kd.R_lower (Kd.R_new' ho0 (Kd.R_lt (rx ((zrf 0 (.slice Ao10 t535.length co10) HO537 BK545))))) (below_size (zb1 HB.out GE545.out))); replace HO537 := am (Kd.R_elder' (rx ((zrf 0 (.slice Ao10 t535.length co10) HO537 BK545))) (Kd.R_base ho0) hb); replace HO540 := am (Kd.R_below (rx ((zrf 0 (.slice Ao10 t535.length co10) HO540 BK545))) hb); replace HO544 := am (Kd.R_below (rx ((zrf 0 (.slice Ao10 t535.length co10) HO544 BK545))) hb); replace BK545 := am (blk_below (g := gb545) (o := .cells #[.slice Ao10 t535.length co10] 31 (0, 0)) (zp0 BK545.out) hb); replace HB := zs1 hb HB GE545; clear hb ho0) | ((with_reducible refine gate_dst (N := 7) rfl ?_); refine box_event rfl (N := 7) rfl (cs := #[.slice none 0 0]) (t := 31) zrun ?_; intro gb550 hg w14 hbox hb; have BK550 := am (hbox); have GE550 := zge hg (zb1 HB.out GE545.out); obtain ⟨NB545_550, NB550_545⟩ := zne hg BK545; replace HO537 := zo hb HO537; replace HO540 := zo hb HO540; replace HO544 := zo hb HO544; replace HO548 := zo hb HO548; replace BK545 := zk hb BK545; replace HB := zs1 hb HB GE545; clear hb hbox hg; obtain ⟨Ao15, co15, eo15⟩ := Kd.R_slice HO548.out; subst eo15; obtain ⟨hnb16, hnc16⟩ := zn2 NB550_545; obtain ⟨hcz17_0, hfz17_0⟩ := zc1 BK550.out; obtain ⟨hcz18_0, hfz18_0⟩ := zc1 BK545.out) | ((with_reducible refine gate_callee (f := 17) rfl ?_); refine goesL_ (some 41) rfl rfl Try.func17 (by kernel_rfl) rfl #[.agg #[.slice Ao10 t535.length co10], .slice Ao12 t538.length co12] rfl zr ?_; (with_reducible refine (spec_DoActs.calls k _ _ t535 _ _ t538 t551 t554 _ ?side1 ?side2 ?side3 ?side4 A6.out).mono ?_); (case side1 => refine (Kd.R_reads' (e := 66) (base := w.heap.size) (ok := fun k_ => (True ∧ some k_ ≠ (.slice Ao15 t546.length co15 : Value).ownBlock)) (n := t535.length) (c := co10) ?_).2.2; exact (rx ((zrf 0 (.slice Ao15 t546.length co15) HO537 BK550)))); (case side2 => exact (Kd.R_reads' HO537.out).2.1); (case side3 => refine (Kd.R_reads' (e := 35) (base := w.heap.size) (ok := fun k_ => True) (n := t538.length) (c := co12) ?_).2.2; exact (rx ((zrf 0 (.slice Ao15 t546.length co15) HO540 BK550)))); (case side4 => exact (Kd.R_reads' HO540.out).2.1); rintro e w19 ⟨v552, rfl, ho0, hb⟩; refine ⟨_, rfl, ?_⟩; have HO553 := am (Kd.R_lower (Kd.R_new' (Kd.R_new' ho0 (Kd.R_lt (rx ((zrf 0 (.slice Ao15 t546.length co15) HO537 BK550))))) (Kd.R_lt (rx ((zrf 0 (.slice Ao15 t546.length co15) HO548 BK550))))) (below_size (zb2 HB.out GE545.out GE550.out))); replace HO537 := am (Kd.R_elder' (rx ((zrf 0 (.slice Ao15 t546.length co15) HO537 BK550))) (Kd.R_base ho0) hb); replace HO540 := am (Kd.R_below (rx ((zrf 0 (.slice Ao15 t546.length co15) HO540 BK550))) hb); replace HO544 := am (Kd.R_below (rx ((zrf 0 (.slice Ao15 t546.length co15) HO544 BK550))) hb); replace HO548 := am (Kd.R_elder' (rx ((zrf 0 (.slice Ao15 t546.length co15) HO548 BK550))) (Kd.R_base ho0) hb); replace BK545 := zh1 hb BK545 NB545_550; replace BK550 := am (blk_below (g := gb550) (o := .cells #[.slice Ao15 t546.length co15] 31 (0, 0)) (zp0 BK550.out) hb); replace HB := zs2 hb HB GE545 GE550; clear hb ho0) | ((with_reducible refine gate_dst (N := 9) rfl ?_); refine box_event rfl (N := 9) rfl (cs := #[.slice none 0 0]) (t := 31) zrun ?_; intro gb555 hg w20 hbox hb; have BK555 := am (hbox); have GE555 := zge hg (zb2 HB.out GE545.out GE550.out); obtain ⟨NB545_555, NB555_545⟩ := zne hg BK545; obtain ⟨NB550_555, NB555_550⟩ := zne hg BK550; replace HO537 := zo hb HO537; replace HO540 := zo hb HO540; replace HO544 := zo hb HO544; replace HO548 := zo hb HO548; replace HO553 := zo hb HO553; replace BK545 := zk hb BK545; replace BK550 := zk hb BK550; replace HB := zs2 hb HB GE545 GE550; clear hb hbox hg; obtain ⟨Ao21, co21, eo21⟩ := Kd.R_slice HO553.out; subst eo21; obtain ⟨hnb22, hnc22⟩ := zn2 NB555_545; obtain ⟨hnb23, hnc23⟩ := zn2 NB555_550; obtain ⟨hcz24_0, hfz24_0⟩ := zc1 BK555.out))
  (try simp only [Act.put, List.setIfInBounds_toArray, List.set_cons_zero, List.set_cons_succ])
  go_cut [52] (fun v52 wc => ∃ (kq : Nat) (x52_6 : Bool), v52 = .bool x52_6 ∧ Aside0 (laws_FnActs.j0 kq t538 t541 t542 t549 x52_6 t535 t546 = some r) ∧ Aside0 (kq ≤ k) ∧ Aside0 (Kd.R k35 35 wc w.heap.size (fun _ => True) (.slice Ao12 t538.length co12) t538) ∧ Aside0 (Kd.R (Kd.int .i64) 3 wc w.heap.size (fun _ => True) v543 t542) ∧ Aside0 (Kd.R k66 66 wc w.heap.size (fun k_ => some k_ ≠ ((.slice Ao15 t546.length co15) : Value).ownBlock ∧ some k_ ≠ ((.slice Ao21 t551.length co21) : Value).ownBlock) (.slice Ao10 t535.length co10) t535) ∧ Aside0 (Kd.R k66 66 wc w.heap.size (fun k_ => some k_ ≠ ((.slice Ao10 t535.length co10) : Value).ownBlock ∧ some k_ ≠ ((.slice Ao21 t551.length co21) : Value).ownBlock) (.slice Ao15 t546.length co15) t546) ∧ Aside0 (Kd.R k66 66 wc w.heap.size (fun k_ => some k_ ≠ ((.slice Ao10 t535.length co10) : Value).ownBlock ∧ some k_ ≠ ((.slice Ao15 t546.length co15) : Value).ownBlock) (.slice Ao21 t551.length co21) t551) ∧ Aside0 (wc.heap[gb545]? = some (.cells #[(.slice Ao10 t535.length co10)] 31 (0, 0))) ∧ Aside0 (wc.heap[gb550]? = some (.cells #[(.slice Ao15 t546.length co15)] 31 (0, 0))) ∧ Aside0 (wc.heap[gb555]? = some (.cells #[(.slice Ao21 t551.length co21)] 31 (0, 0))) ∧ Aside0 (Below w.heap.size w wc))
  case first =>
   have H := HC7.out
   clear HC7
   by_cases c25 : t549 = t554
   ·rw [if_pos c25] at H
    have c25b0 : (t549 == t554) = true := beq_iff_eq.mpr c25
    have c25b1 : (t549 != t554) = false := bne_eq_false_iff_eq.mpr c25
    clear c25
    (first | rw [c25b0] | (simp only [i64_w, i32_w]; rw [c25b0]) | skip)
    replace H := Option.bind_eq_some_iff.mp H
    obtain ⟨t556, A260, H⟩ := H
    try dsimp only at H
    have A26 := Aside0.mk A260
    clear A260
    have H' := Aside0.mk H
    clear H
    obtain ⟨hnb27, hnc27⟩ := zn2 NB550_545
    obtain ⟨hnb28, hnc28⟩ := zn2 NB550_555
    obtain ⟨hcz29_0, hfz29_0⟩ := zc1 BK550.out
    obtain ⟨hnb30, hnc30⟩ := zn2 NB555_545
    obtain ⟨hcz31_0, hfz31_0⟩ := zc1 BK555.out
    go_wp2_with (first | (go_at_call 24; (with_reducible refine (laws_sameDisk.calls k _ _ t546 _ _ t551 t556 _ ?side1 ?side2 ?side3 ?side4 A26.out).mono ?_); (case side1 => refine (Kd.R_reads' (e := 66) (base := w.heap.size) (ok := fun k_ => ((True ∧ some k_ ≠ (.slice Ao10 t535.length co10 : Value).ownBlock) ∧ some k_ ≠ (.slice Ao21 t551.length co21 : Value).ownBlock)) (n := t546.length) (c := co15) ?_).2.2; exact (rx ((zrf 0 (.slice Ao21 t551.length co21) HO548 BK555)))); (case side2 => exact (Kd.R_reads' HO548.out).2.1); (case side3 => refine (Kd.R_reads' (e := 66) (base := w.heap.size) (ok := fun k_ => ((True ∧ some k_ ≠ (.slice Ao10 t535.length co10 : Value).ownBlock) ∧ some k_ ≠ (.slice Ao15 t546.length co15 : Value).ownBlock)) (n := t551.length) (c := co21) ?_).2.2; exact (rx ((zrf 0 (.slice Ao21 t551.length co21) HO553 BK555)))); (case side4 => exact (Kd.R_reads' HO553.out).2.1); rintro e w32 ⟨rfl, hb⟩; replace HO537 := am (Kd.R_below (rx ((zrf 0 (.slice Ao21 t551.length co21) HO537 BK555))) hb); replace HO540 := am (Kd.R_below (rx ((zrf 0 (.slice Ao21 t551.length co21) HO540 BK555))) hb); replace HO544 := am (Kd.R_below (rx ((zrf 0 (.slice Ao21 t551.length co21) HO544 BK555))) hb); replace HO548 := am (Kd.R_below (rx ((zrf 0 (.slice Ao21 t551.length co21) HO548 BK555))) hb); replace HO553 := am (Kd.R_below (rx ((zrf 0 (.slice Ao21 t551.length co21) HO553 BK555))) hb); replace BK545 := zh1 hb BK545 NB545_555; replace BK550 := zh1 hb BK550 NB550_555; replace BK555 := am (blk_below (g := gb555) (o := .cells #[.slice Ao21 t551.length co21] 31 (0, 0)) (zp0 BK555.out) hb); replace HB := zs3 hb HB GE545 GE550 GE555; clear hb))
    go_meet
    case rel => exact ⟨_, (!t556), (by first | rfl | (simp; done) | (simp [*]; done)), H', ⟨by first | omega | exact Nat.le_refl _⟩, ⟨rx HO540.out⟩, ⟨rx HO544.out⟩, ⟨rx (Kd.R_mono HO537.out (fun _ hk => ⟨hk.1.2, hk.2⟩))⟩, ⟨rx (Kd.R_mono HO548.out (fun _ hk => ⟨hk.1.2, hk.2⟩))⟩, ⟨rx (Kd.R_mono HO553.out (fun _ hk => ⟨hk.1.2, hk.2⟩))⟩, ⟨kx BK545.out⟩, ⟨kx BK550.out⟩, ⟨kx BK555.out⟩, ⟨zb3 HB.out GE545.out GE550.out GE555.out⟩⟩
   ·rw [if_neg c25] at H
    have c25b0 : (t549 == t554) = false := beq_eq_false_iff_ne.mpr c25
    have c25b1 : (t549 != t554) = true := bne_iff_ne.mpr c25
    (first | rw [c25b0] | (simp only [i64_w, i32_w]; rw [c25b0]) | skip)
    have H' := Aside0.mk H
    clear H
    go_wp2
    go_meet
    case rel => exact ⟨_, (true), (by first | rfl | (simp; done) | (simp [*]; done)), H', ⟨by first | omega | exact Nat.le_refl _⟩, ⟨rx (Kd.R_mono (Kd.R_far (p := ⟨gb555, 0, none⟩) (Kd.R_types HO540.out BK555.out (by decide)) (fun _ hk => hk.2) (.slice Ao21 t551.length co21)) (fun _ hk => trivial))⟩, ⟨rx (Kd.R_mono (Kd.R_far (p := ⟨gb555, 0, none⟩) (Kd.R_types HO544.out BK555.out (by decide)) (fun _ hk => hk.2) (.slice Ao21 t551.length co21)) (fun _ hk => trivial))⟩, ⟨rx (Kd.R_mono (Kd.R_far (p := ⟨gb555, 0, none⟩) (Kd.R_types HO537.out BK555.out (by decide)) (fun _ hk => hk.2) (.slice Ao21 t551.length co21)) (fun _ hk => ⟨hk.1.1.2, hk.1.2⟩))⟩, ⟨rx (Kd.R_mono (Kd.R_far (p := ⟨gb555, 0, none⟩) (Kd.R_types HO548.out BK555.out (by decide)) (fun _ hk => hk.2) (.slice Ao21 t551.length co21)) (fun _ hk => ⟨hk.1.1.2, hk.1.2⟩))⟩, ⟨rx (Kd.R_mono (Kd.R_far (p := ⟨gb555, 0, none⟩) (Kd.R_types HO553.out BK555.out (by decide)) (fun _ hk => hk.2) (.slice Ao21 t551.length co21)) (fun _ hk => ⟨hk.1.1.2, hk.1.2⟩))⟩, ⟨zf1 BK545.out NB545_555.out⟩, ⟨zf1 BK550.out NB550_555.out⟩, ⟨by (with_reducible repeat (first | refine blk_drewN ?_ _ | refine blk_drew ?_ | refine blk_alloc ?_ _)); refine blk_put (cs := #[.slice none 0 0]) ?_ 0 _ rfl; (with_reducible repeat (first | refine blk_drewN ?_ _ | refine blk_drew ?_ | refine blk_alloc ?_ _)); exact BK555.out⟩, ⟨zb3 HB.out GE545.out GE550.out GE555.out⟩⟩
  case rest =>
   clear HC7
   obtain ⟨kq, x52_6, rfl, HA, HJ6, HO_4, HO_6, HO_546000, HO_551000, HO_556000, BK545, BK550, BK555, HB⟩ := hcut
   cases kq with
   | zero => exact absurd HA.out (by simp [laws_FnActs.j0])
   | succ kj6 =>
    have H := HA.out
    clear HA
    simp only [laws_FnActs.j0] at H
    by_cases c33 : x52_6 = true
    ·subst c33
     have H1 : (some false) = some r := by rw [if_pos rfl] at H; exact H
     clear H
     have H := H1
     clear H1
     exact absurd ((Option.some.inj H).trans HLT.out) (by decide)
    ·replace c33 := Bool.eq_false_iff.mpr c33
     subst c33
     have H1 : (laws_FnActs.l0 kj6 t538 t541 t542 t549 0 t535 t546 t535) = some r := by rw [if_neg (show ¬ (false = true) by decide)] at H; exact H
     clear H
     have H := H1
     clear H1
     have H' := Aside0.mk H
     clear H
     obtain ⟨hnb34, hnc34⟩ := zn2 NB545_550
     obtain ⟨hnb35, hnc35⟩ := zn2 NB545_555
     obtain ⟨hcz36_0, hfz36_0⟩ := zc1 BK545.out
     go_wp2_with (first | ((with_reducible refine gate_dst (N := 11) rfl ?_); refine box_event rfl (N := 11) rfl (cs := #[.slice none 0 0]) (t := 31) zrun ?_; intro gb557 hg w37 hbox hb; have BK557 := am (hbox); have GE557 := zge hg (zb3 HB.out GE545.out GE550.out GE555.out); obtain ⟨NB545_557, NB557_545⟩ := zne hg BK545; obtain ⟨NB550_557, NB557_550⟩ := zne hg BK550; obtain ⟨NB555_557, NB557_555⟩ := zne hg BK555; replace HO_4 := zo hb HO_4; replace HO_6 := zo hb HO_6; replace HO_546000 := zo hb HO_546000; replace HO_551000 := zo hb HO_551000; replace HO_556000 := zo hb HO_556000; replace BK545 := zk hb BK545; replace BK550 := zk hb BK550; replace BK555 := zk hb BK555; replace HB := zs3 hb HB GE545 GE550 GE555; clear hb hbox hg; obtain ⟨hnb38, hnc38⟩ := zn2 NB557_545; obtain ⟨hnb39, hnc39⟩ := zn2 NB557_550; obtain ⟨hnb40, hnc40⟩ := zn2 NB557_555; obtain ⟨hcz41_0, hfz41_0⟩ := zc1 BK557.out))
     go_loopg [12] kj6 (fun kq v12 w' => ∃ (x12_2 : Int) (x558000_2 : List (S66)) (u558000 : Value), v12 = .int .i64 x12_2 ∧ Aside0 (laws_FnActs.l0 kq t538 t541 t542 t549 x12_2 t535 t546 x558000_2 = some r) ∧ Aside0 (kq ≤ kj6) ∧ Aside0 (Kd.R k35 35 w' w.heap.size (fun _ => True) (.slice Ao12 t538.length co12) t538) ∧ Aside0 (Kd.R (Kd.int .i64) 3 w' w.heap.size (fun _ => True) v543 t542) ∧ Aside0 (Kd.R k66 66 w' w.heap.size (fun k_ => some k_ ≠ ((.slice Ao15 t546.length co15) : Value).ownBlock ∧ some k_ ≠ ((.slice Ao21 t551.length co21) : Value).ownBlock) (.slice Ao10 t535.length co10) t535) ∧ Aside0 (Kd.R k66 66 w' w.heap.size (fun k_ => some k_ ≠ ((.slice Ao10 t535.length co10) : Value).ownBlock ∧ some k_ ≠ ((.slice Ao21 t551.length co21) : Value).ownBlock ∧ some k_ ≠ (u558000 : Value).ownBlock) (.slice Ao15 t546.length co15) t546) ∧ Aside0 (Kd.R k66 66 w' w.heap.size (fun k_ => some k_ ≠ ((.slice Ao10 t535.length co10) : Value).ownBlock ∧ some k_ ≠ ((.slice Ao15 t546.length co15) : Value).ownBlock ∧ some k_ ≠ (u558000 : Value).ownBlock) (.slice Ao21 t551.length co21) t551) ∧ Aside0 (Kd.R k66 66 w' w.heap.size (fun k_ => some k_ ≠ ((.slice Ao15 t546.length co15) : Value).ownBlock ∧ some k_ ≠ ((.slice Ao21 t551.length co21) : Value).ownBlock) u558000 x558000_2) ∧ Aside0 (w'.heap[gb545]? = some (.cells #[(.slice Ao10 t535.length co10)] 31 (0, 0))) ∧ Aside0 (w'.heap[gb550]? = some (.cells #[(.slice Ao15 t546.length co15)] 31 (0, 0))) ∧ Aside0 (w'.heap[gb555]? = some (.cells #[(.slice Ao21 t551.length co21)] 31 (0, 0))) ∧ Aside0 (w'.heap[gb557]? = some (.cells #[u558000] 31 (0, 0))) ∧ Aside0 (Below w.heap.size w w'))
     case atStart => exact ⟨(0), (t535), (.slice Ao10 t535.length co10), (by first | rfl | (simp; done) | (simp [*]; done)), H', ⟨Nat.le_refl _⟩, ⟨rx (Kd.R_mono (Kd.R_far (p := ⟨gb557, 0, none⟩) (Kd.R_types HO_4.out BK557.out (by decide)) (fun _ hk => hk.2) (.slice Ao10 t535.length co10)) (fun _ hk => trivial))⟩, ⟨rx (Kd.R_mono (Kd.R_far (p := ⟨gb557, 0, none⟩) (Kd.R_types HO_6.out BK557.out (by decide)) (fun _ hk => hk.2) (.slice Ao10 t535.length co10)) (fun _ hk => trivial))⟩, ⟨rx (Kd.R_mono (Kd.R_far (p := ⟨gb557, 0, none⟩) (Kd.R_types HO_546000.out BK557.out (by decide)) (fun _ hk => hk.2) (.slice Ao10 t535.length co10)) (fun _ hk => ⟨hk.1.1, hk.1.2⟩))⟩, ⟨rx (Kd.R_mono (Kd.R_far (p := ⟨gb557, 0, none⟩) (Kd.R_types HO_551000.out BK557.out (by decide)) (fun _ hk => hk.2) (.slice Ao10 t535.length co10)) (fun _ hk => ⟨hk.1.1, ⟨hk.1.2, hk.1.1⟩⟩))⟩, ⟨rx (Kd.R_mono (Kd.R_far (p := ⟨gb557, 0, none⟩) (Kd.R_types HO_556000.out BK557.out (by decide)) (fun _ hk => hk.2) (.slice Ao10 t535.length co10)) (fun _ hk => ⟨hk.1.1, ⟨hk.1.2, hk.1.1⟩⟩))⟩, ⟨rx (Kd.R_mono (Kd.R_far (p := ⟨gb557, 0, none⟩) (Kd.R_types HO_546000.out BK557.out (by decide)) (fun _ hk => hk.2) (.slice Ao10 t535.length co10)) (fun _ hk => ⟨hk.1.1, hk.1.2⟩))⟩, ⟨zf1 BK545.out NB545_557.out⟩, ⟨zf1 BK550.out NB550_557.out⟩, ⟨zf1 BK555.out NB555_557.out⟩, ⟨by (with_reducible repeat (first | refine blk_drewN ?_ _ | refine blk_drew ?_ | refine blk_alloc ?_ _)); refine blk_put (cs := #[.slice none 0 0]) ?_ 0 _ rfl; (with_reducible repeat (first | refine blk_drewN ?_ _ | refine blk_drew ?_ | refine blk_alloc ?_ _)); exact BK557.out⟩, ⟨zb4 HB.out GE545.out GE550.out GE555.out GE557.out⟩⟩
     case round =>
      clear H'
      obtain ⟨x12_2, x558000_2, u558000, rfl, HA, HK2, HO_4, HO_6, HO_546000, HO_551000, HO_556000, HO_558000, BK545, BK550, BK555, BK557, HB⟩ := hrel
      cases gk with
      | zero => exact absurd HA.out (by simp [laws_FnActs.l0])
      | succ k2 =>
       have H := HA.out
       clear HA
       simp only [laws_FnActs.l0] at H
       by_cases c42 : x12_2 < t549
       ·rw [if_pos c42] at H
        have c42b0 : decide (x12_2 < t549) = true := decide_eq_true c42
        have c42b1 : decide (t549 ≤ x12_2) = false := decide_eq_false (by omega)
        clear c42
        by_cases c43 : 0 ≤ x12_2
        ·rw [if_pos c43] at H
         have c43b0 : decide (0 ≤ x12_2) = true := decide_eq_true c43
         clear c43
         by_cases c44 : x12_2 < (t538.length : Int)
         ·rw [if_pos c44] at H
          have c44b0 : decide (x12_2 < (t538.length : Int)) = true := decide_eq_true c44
          have c44b1 : decide ((t538.length : Int) ≤ x12_2) = false := decide_eq_false (by omega)
          clear c44
          replace H := Option.bind_eq_some_iff.mp H
          obtain ⟨⟨t559, t562⟩, A450, H⟩ := H
          try dsimp only at H
          have A45 := Aside0.mk A450
          clear A450
          by_cases c46 : t562 = true
          ·subst c46
           have H1 : ((impl_FileAt.f x558000_2 ((rd_T35 t538 x12_2).f1)).bind fun bt565 => ((impl_FileAt.f t559 ((rd_T35 t538 x12_2).f1)).bind fun bt568 => (if ((rd_T35 t538 x12_2).f0) = 1 then (if bt568.2 = true then (if bt565.1.size + ((rd_T35 t538 x12_2).f2).size ≤ 9223372036854775807 then (if bt568.1.toList = (bt565.1 ++ ((rd_T35 t538 x12_2).f2)).toList then (if ((rd_T35 t538 x12_2).f0) = 4 then (some false) else (laws_FnActs.l0 k2 t538 t541 t542 t549 (wrap64 (x12_2 + 1)) t535 t546 t559)) else (some false)) else (none)) else (some false)) else (if ((rd_T35 t538 x12_2).f0) = 4 then (if bt568.2 = true then (some false) else (laws_FnActs.l0 k2 t538 t541 t542 t549 (wrap64 (x12_2 + 1)) t535 t546 t559)) else (laws_FnActs.l0 k2 t538 t541 t542 t549 (wrap64 (x12_2 + 1)) t535 t546 t559))))) = some r := by rw [if_pos rfl] at H; exact H
           clear H
           have H := H1
           clear H1
           replace H := Option.bind_eq_some_iff.mp H
           obtain ⟨⟨t565, t566⟩, A470, H⟩ := H
           try dsimp only at H
           have A47 := Aside0.mk A470
           clear A470
           replace H := Option.bind_eq_some_iff.mp H
           obtain ⟨⟨t568, t569⟩, A480, H⟩ := H
           try dsimp only at H
           have A48 := Aside0.mk A480
           clear A480
           have HD_ := Aside0.mk H
           clear H
           obtain ⟨Ao54, co54, eo54⟩ := Kd.R_slice HO_558000.out
           subst eo54
           try go_wp2
           replace HO_4 := am (Kd.R_drew HO_4.out)
           replace HO_6 := am (Kd.R_drew HO_6.out)
           replace HO_546000 := am (Kd.R_drew HO_546000.out)
           replace HO_551000 := am (Kd.R_drew HO_551000.out)
           replace HO_556000 := am (Kd.R_drew HO_556000.out)
           replace HO_558000 := am (Kd.R_drew HO_558000.out)
           replace BK545 := zw BK545
           replace BK550 := zw BK550
           replace BK555 := zw BK555
           replace BK557 := zw BK557
           replace HB := am (below_drew1 HB.out)
           have p558 : 0 ≤ (x12_2 : Int) := zpq
           have q558 : x12_2 < (t538.length : Int) := zpq
           obtain ⟨ad558, e558, hx558_0, hx558_1, hx558_2, hx558_3⟩ := at_T35 (Kd.R_reads' HO_4.out).2.2 x12_2 p558 q558
           cases e558
           replace p558 := eq_true p558
           replace q558 := eq_true q558
           refine start_ (n := 12) (S := fun w' => w'.cell? ⟨gb557, 0, none⟩ = some (.slice Ao54 x558000_2.length co54) ∧ w'.cell? (ad558.add ((x12_2).toNat * 4)) = some (.int .i64 ((rd_T35 t538 x12_2).f0)) ∧ w'.cell? ⟨(ad558.add ((x12_2).toNat * 4)).block, (ad558.add ((x12_2).toNat * 4)).off + 1, none⟩ = some (.string ((rd_T35 t538 x12_2).f1)) ∧ w'.cell? ⟨(ad558.add ((x12_2).toNat * 4)).block, (ad558.add ((x12_2).toNat * 4)).off + 2, none⟩ = some (.string ((rd_T35 t538 x12_2).f2)) ∧ w'.cell? ⟨(ad558.add ((x12_2).toNat * 4)).block, (ad558.add ((x12_2).toNat * 4)).off + 3, none⟩ = some (.string ((rd_T35 t538 x12_2).f3))) (ds := []) #[false, false, false, false, false, false, false, false, false, false, false, false] (by kernel_rfl) rfl rfl ⟨ct BK557.out 0, hx558_0, hx558_1, hx558_2, hx558_3⟩ (fun hHeld => ?_); refine with_tabW laws_FnActs.tab12 laws_FnActs.bits12 (fun HT_ HW_ => ?_)
           generalize wr.drew = w55 at HO_4 HO_6 HO_546000 HO_551000 HO_556000 HO_558000 BK545 BK550 BK555 BK557 HB hx558_0 hx558_1 hx558_2 hx558_3 hHeld ⊢
           refine zpu 1 61 #[false, true, false, false, false, false, false, false, false, false, false, false] HT_ ?_
           refine zpu 2 62 #[false, true, true, false, false, false, false, false, false, false, false, false] HT_ ?_
           refine zpu 3 63 #[false, true, true, true, false, false, false, false, false, false, false, false] HT_ ?_
           refine ztk5 0 60 #[true, true, true, true, false, false, false, false, false, false, false, false] HT_ HW_ hHeld ?_
           refine ztk5 4 64 #[true, true, true, true, true, false, false, false, false, false, false, false] HT_ HW_ hHeld ?_
           refine join_ (σ := Value × Nat) 2 #[true, true, true, true, true, true, true, true, true, true, false, false] (fun s_ => [(65, .tuple #[.agg #[s_.1], .bool true]), (13, .pointer (some ⟨s_.2, 0, none⟩)), (59, .tuple #[.agg #[s_.1], .bool true]), (66, .agg #[s_.1]), (67, .bool true)]) (fun s_ w' => (w'.cell? ⟨gb557, 0, none⟩ = some (.slice Ao54 x558000_2.length co54) ∧ w'.cell? (ad558.add ((x12_2).toNat * 4)) = some (.int .i64 ((rd_T35 t538 x12_2).f0)) ∧ w'.cell? ⟨(ad558.add ((x12_2).toNat * 4)).block, (ad558.add ((x12_2).toNat * 4)).off + 1, none⟩ = some (.string ((rd_T35 t538 x12_2).f1)) ∧ w'.cell? ⟨(ad558.add ((x12_2).toNat * 4)).block, (ad558.add ((x12_2).toNat * 4)).off + 2, none⟩ = some (.string ((rd_T35 t538 x12_2).f2)) ∧ w'.cell? ⟨(ad558.add ((x12_2).toNat * 4)).block, (ad558.add ((x12_2).toNat * 4)).off + 3, none⟩ = some (.string ((rd_T35 t538 x12_2).f3))) ∧ (Kd.R k66 66 w' w.heap.size (fun k_ => some k_ ≠ (.slice Ao10 t535.length co10 : Value).ownBlock ∧ some k_ ≠ (.slice Ao15 t546.length co15 : Value).ownBlock ∧ some k_ ≠ (.slice Ao21 t551.length co21 : Value).ownBlock ∧ some k_ ≠ (.slice Ao54 x558000_2.length co54 : Value).ownBlock) s_.1 t559) ∧ (Kd.R k35 35 w' w.heap.size (fun _ => True) (.slice (some ad558) t538.length co12) t538) ∧ (Kd.R k66 66 w' w.heap.size (fun k_ => some k_ ≠ (s_.1 : Value).ownBlock ∧ some k_ ≠ (.slice Ao15 t546.length co15 : Value).ownBlock ∧ some k_ ≠ (.slice Ao21 t551.length co21 : Value).ownBlock) (.slice Ao10 t535.length co10) t535) ∧ (Kd.R k66 66 w' w.heap.size (fun k_ => some k_ ≠ (s_.1 : Value).ownBlock ∧ some k_ ≠ (.slice Ao10 t535.length co10 : Value).ownBlock ∧ some k_ ≠ (.slice Ao21 t551.length co21 : Value).ownBlock ∧ some k_ ≠ (.slice Ao54 x558000_2.length co54 : Value).ownBlock) (.slice Ao15 t546.length co15) t546) ∧ (Kd.R k66 66 w' w.heap.size (fun k_ => some k_ ≠ (s_.1 : Value).ownBlock ∧ some k_ ≠ (.slice Ao10 t535.length co10 : Value).ownBlock ∧ some k_ ≠ (.slice Ao15 t546.length co15 : Value).ownBlock ∧ some k_ ≠ (.slice Ao54 x558000_2.length co54 : Value).ownBlock) (.slice Ao21 t551.length co21) t551) ∧ (Kd.R k66 66 w' w.heap.size (fun k_ => some k_ ≠ (s_.1 : Value).ownBlock ∧ some k_ ≠ (.slice Ao15 t546.length co15 : Value).ownBlock ∧ some k_ ≠ (.slice Ao21 t551.length co21 : Value).ownBlock) (.slice Ao54 x558000_2.length co54) x558000_2) ∧ (Kd.R (Kd.int .i64) 3 w' w.heap.size (fun _ => True) v543 t542) ∧ (w'.heap[gb545]? = some (.cells #[.slice Ao10 t535.length co10] 31 (0, 0))) ∧ (w'.heap[gb550]? = some (.cells #[.slice Ao15 t546.length co15] 31 (0, 0))) ∧ (w'.heap[gb555]? = some (.cells #[.slice Ao21 t551.length co21] 31 (0, 0))) ∧ (w'.heap[gb557]? = some (.cells #[.slice Ao54 x558000_2.length co54] 31 (0, 0))) ∧ (w'.heap[s_.2]? = some (.cells #[.slice none 0 0] 31 (0, 0))) ∧ (w.heap.size ≤ s_.2) ∧ (w.heap.size ≤ s_.2) ∧ (gb545 ≠ s_.2) ∧ (s_.2 ≠ gb545) ∧ (gb550 ≠ s_.2) ∧ (s_.2 ≠ gb550) ∧ (gb555 ≠ s_.2) ∧ (s_.2 ≠ gb555) ∧ (gb557 ≠ s_.2) ∧ (s_.2 ≠ gb557) ∧ (Below w.heap.size w w')) ?_ ?_
           rotate_left
           ·intro hCont
            refine two_ (i := 5) (j := 9) (Ni := some 65) (Nj := some 13) #[true, true, true, true, true, true, false, false, false, false, false, false] #[true, true, true, true, true, false, false, false, false, true, false, false] rfl rfl rfl rfl (two_of HT_.out (by kernel_rfl)) (by decide) (by decide) (fun K hK => ?_) (fun K hK => ?_)
            ·skip
             refine goes_ Try.func12 (by kernel_rfl) rfl #[.agg #[.slice Ao54 x558000_2.length co54], .agg #[.int .i64 ((rd_T35 t538 x12_2).f0), .string ((rd_T35 t538 x12_2).f1), .string ((rd_T35 t538 x12_2).f2), .string ((rd_T35 t538 x12_2).f3)]] (by rfl) rfl rfl zr ?_
             with_reducible refine (impl_DoAct.calls k2 _ _ x558000_2 ((rd_T35 t538 x12_2).f0) ((rd_T35 t538 x12_2).f1) ((rd_T35 t538 x12_2).f2) ((rd_T35 t538 x12_2).f3) t559 true _ ?side1 ?side2 A45.out).mono ?_
             (case side1 => repeat (first | exact (Kd.R_reads' HO_558000.out).2.2 | (with_reducible refine Kd.C_alloc ?_ _) | (with_reducible refine Kd.C_drewN ?_ _) | (with_reducible refine Kd.C_drew ?_)))
             (case side2 => exact (Kd.R_reads' HO_558000.out).2.1)
             rintro e w56 ⟨v560, rfl, ho0, hb⟩
             have HS1_ := (hb.cell (World.block_lt_of_cell? _ _ (hHeld.2.1))).trans (hHeld.2.1)
             have HS2_ := (hb.cell (World.block_lt_of_cell? _ _ (hHeld.2.2.1))).trans (hHeld.2.2.1)
             have HS3_ := (hb.cell (World.block_lt_of_cell? _ _ (hHeld.2.2.2.1))).trans (hHeld.2.2.2.1)
             have HS4_ := (hb.cell (World.block_lt_of_cell? _ _ (hHeld.2.2.2.2))).trans (hHeld.2.2.2.2)
             refine ⟨_, rfl, ?_⟩
             have HO561 := am (Kd.R_lower (Kd.R_new' (Kd.R_new' (Kd.R_new' (Kd.R_new' ho0 (Kd.R_lt (rx HO_546000.out))) (Kd.R_lt (rx HO_551000.out))) (Kd.R_lt (rx HO_556000.out))) (Kd.R_lt (rx HO_558000.out))) (below_size (zb4 HB.out GE545.out GE550.out GE555.out GE557.out)))
             replace HO_4 := zo hb HO_4
             replace HO_6 := zo hb HO_6
             replace HO_546000 := am (Kd.R_elder' (rx HO_546000.out) (Kd.R_base ho0) hb)
             replace HO_551000 := am (Kd.R_elder' (rx HO_551000.out) (Kd.R_base ho0) hb)
             replace HO_556000 := am (Kd.R_elder' (rx HO_556000.out) (Kd.R_base ho0) hb)
             replace HO_558000 := am (Kd.R_elder' (rx HO_558000.out) (Kd.R_base ho0) hb)
             replace BK545 := zk hb BK545
             replace BK550 := zk hb BK550
             replace BK555 := zk hb BK555
             replace BK557 := zk hb BK557
             replace HB := zs4 hb HB GE545 GE550 GE555 GE557
             refine hK.out _ _ ⟨ct BK557.out 0, HS1_, HS2_, HS3_, HS4_⟩ (fun hHeld => ?_)
             clear hK K
             refine znm 65 ?_
             refine zpu 6 59 #[true, true, true, true, true, true, true, false, false, false, false, false] HT_ ?_
             refine zpu 7 66 #[true, true, true, true, true, true, true, true, false, false, false, false] HT_ ?_
             refine zpu 8 67 #[true, true, true, true, true, true, true, true, true, false, false, false] HT_ ?_
             refine zon 9 #[true, true, true, true, true, true, true, true, true, true, false, false] HT_ (fun K hK => ?_)
             refine box_step ?hg (N := 13) ?hd (cs := #[.slice none 0 0]) (t := 31) ?hr ?_; (case hd => rfl); (case hg => rfl); (case hr => first | (go_simp; done) | (go_simp; rfl))
             intro gb563 hg w57 hbox hb
             have HS1_ := (hb.cell (World.block_lt_of_cell? _ _ (hHeld.2.1))).trans (hHeld.2.1)
             have HS2_ := (hb.cell (World.block_lt_of_cell? _ _ (hHeld.2.2.1))).trans (hHeld.2.2.1)
             have HS3_ := (hb.cell (World.block_lt_of_cell? _ _ (hHeld.2.2.2.1))).trans (hHeld.2.2.2.1)
             have HS4_ := (hb.cell (World.block_lt_of_cell? _ _ (hHeld.2.2.2.2))).trans (hHeld.2.2.2.2)
             have BK563 := am (hbox)
             have GW563 := zge hg (zb4 HB.out GE545.out GE550.out GE555.out GE557.out)
             have GE563 := zge hg (zb4 HB.out GE545.out GE550.out GE555.out GE557.out)
             obtain ⟨NB545_563, NB563_545⟩ := zne hg BK545
             obtain ⟨NB550_563, NB563_550⟩ := zne hg BK550
             obtain ⟨NB555_563, NB563_555⟩ := zne hg BK555
             obtain ⟨NB557_563, NB563_557⟩ := zne hg BK557
             replace HO_4 := zo hb HO_4
             replace HO_6 := zo hb HO_6
             replace HO_546000 := zo hb HO_546000
             replace HO_551000 := zo hb HO_551000
             replace HO_556000 := zo hb HO_556000
             replace HO_558000 := zo hb HO_558000
             replace HO561 := zo hb HO561
             replace BK545 := zk hb BK545
             replace BK550 := zk hb BK550
             replace BK555 := zk hb BK555
             replace BK557 := zk hb BK557
             replace HB := zs4 hb HB GE545 GE550 GE555 GE557
             clear hb hbox hg
             refine hK.out _ _ ⟨ct BK557.out 0, HS1_, HS2_, HS3_, HS4_⟩ (fun hHeld => ?_)
             clear hK K
             refine znm 13 ?_
             exact norm_ (by simp only [putAll, Act.put, List.setIfInBounds_toArray, List.set_cons_zero, List.set_cons_succ]) (hCont (v560, gb563) _ ⟨hHeld, (rx (Kd.R_mono HO561.out (fun _ hk => ⟨hk.1.1.1.2, ⟨hk.1.1.2, ⟨hk.1.2, hk.2⟩⟩⟩))), (rx HO_4.out), (rx (Kd.R_mono HO_546000.out (fun _ hk => ⟨hk.2, ⟨hk.1.1, hk.1.2⟩⟩))), (rx (Kd.R_mono HO_551000.out (fun _ hk => ⟨hk.2, ⟨hk.1.1, ⟨hk.1.2.1, hk.1.2.2⟩⟩⟩))), (rx (Kd.R_mono HO_556000.out (fun _ hk => ⟨hk.2, ⟨hk.1.1, ⟨hk.1.2.1, hk.1.2.2⟩⟩⟩))), (rx (Kd.R_mono HO_558000.out (fun _ hk => ⟨hk.2, ⟨hk.1.1, hk.1.2⟩⟩))), (rx HO_6.out), (kx BK545.out), (kx BK550.out), (kx BK555.out), (kx BK557.out), (kx BK563.out), GW563.out, GE563.out, NB545_563.out, NB563_545.out, NB550_563.out, NB563_550.out, NB555_563.out, NB563_555.out, NB557_563.out, NB563_557.out, (zb5 HB.out GE545.out GE550.out GE555.out GE557.out GE563.out)⟩)
            ·skip
             refine box_step ?hg (N := 13) ?hd (cs := #[.slice none 0 0]) (t := 31) ?hr ?_; (case hd => rfl); (case hg => rfl); (case hr => first | (go_simp; done) | (go_simp; rfl))
             intro gb563 hg w56 hbox hb
             have HS1_ := (hb.cell (World.block_lt_of_cell? _ _ (hHeld.2.1))).trans (hHeld.2.1)
             have HS2_ := (hb.cell (World.block_lt_of_cell? _ _ (hHeld.2.2.1))).trans (hHeld.2.2.1)
             have HS3_ := (hb.cell (World.block_lt_of_cell? _ _ (hHeld.2.2.2.1))).trans (hHeld.2.2.2.1)
             have HS4_ := (hb.cell (World.block_lt_of_cell? _ _ (hHeld.2.2.2.2))).trans (hHeld.2.2.2.2)
             have BK563 := am (hbox)
             have GW563 := zge hg (zb4 HB.out GE545.out GE550.out GE555.out GE557.out)
             have GE563 := zge hg (zb4 HB.out GE545.out GE550.out GE555.out GE557.out)
             obtain ⟨NB545_563, NB563_545⟩ := zne hg BK545
             obtain ⟨NB550_563, NB563_550⟩ := zne hg BK550
             obtain ⟨NB555_563, NB563_555⟩ := zne hg BK555
             obtain ⟨NB557_563, NB563_557⟩ := zne hg BK557
             replace HO_4 := zo hb HO_4
             replace HO_6 := zo hb HO_6
             replace HO_546000 := zo hb HO_546000
             replace HO_551000 := zo hb HO_551000
             replace HO_556000 := zo hb HO_556000
             replace HO_558000 := zo hb HO_558000
             replace BK545 := zk hb BK545
             replace BK550 := zk hb BK550
             replace BK555 := zk hb BK555
             replace BK557 := zk hb BK557
             replace HB := zs4 hb HB GE545 GE550 GE555 GE557
             clear hb hbox hg
             refine hK.out _ _ ⟨ct BK557.out 0, HS1_, HS2_, HS3_, HS4_⟩ (fun hHeld => ?_)
             clear hK K
             refine znm 13 ?_
             refine zon 5 #[true, true, true, true, true, true, false, false, false, true, false, false] HT_ (fun K hK => ?_)
             refine goes_ Try.func12 (by kernel_rfl) rfl #[.agg #[.slice Ao54 x558000_2.length co54], .agg #[.int .i64 ((rd_T35 t538 x12_2).f0), .string ((rd_T35 t538 x12_2).f1), .string ((rd_T35 t538 x12_2).f2), .string ((rd_T35 t538 x12_2).f3)]] (by rfl) rfl rfl zr ?_
             with_reducible refine (impl_DoAct.calls k2 _ _ x558000_2 ((rd_T35 t538 x12_2).f0) ((rd_T35 t538 x12_2).f1) ((rd_T35 t538 x12_2).f2) ((rd_T35 t538 x12_2).f3) t559 true _ ?side1 ?side2 A45.out).mono ?_
             (case side1 => repeat (first | exact (Kd.R_reads' HO_558000.out).2.2 | (with_reducible refine Kd.C_alloc ?_ _) | (with_reducible refine Kd.C_drewN ?_ _) | (with_reducible refine Kd.C_drew ?_)))
             (case side2 => exact (Kd.R_reads' HO_558000.out).2.1)
             rintro e w57 ⟨v560, rfl, ho0, hb⟩
             have HS1_ := (hb.cell (World.block_lt_of_cell? _ _ (hHeld.2.1))).trans (hHeld.2.1)
             have HS2_ := (hb.cell (World.block_lt_of_cell? _ _ (hHeld.2.2.1))).trans (hHeld.2.2.1)
             have HS3_ := (hb.cell (World.block_lt_of_cell? _ _ (hHeld.2.2.2.1))).trans (hHeld.2.2.2.1)
             have HS4_ := (hb.cell (World.block_lt_of_cell? _ _ (hHeld.2.2.2.2))).trans (hHeld.2.2.2.2)
             refine ⟨_, rfl, ?_⟩
             have HO561 := am (Kd.R_lower (Kd.R_new' (Kd.R_new' (Kd.R_new' (Kd.R_new' ho0 (Kd.R_lt (rx HO_546000.out))) (Kd.R_lt (rx HO_551000.out))) (Kd.R_lt (rx HO_556000.out))) (Kd.R_lt (rx HO_558000.out))) (below_size (zb5 HB.out GE545.out GE550.out GE555.out GE557.out GE563.out)))
             replace HO_4 := zo hb HO_4
             replace HO_6 := zo hb HO_6
             replace HO_546000 := am (Kd.R_elder' (rx HO_546000.out) (Kd.R_base ho0) hb)
             replace HO_551000 := am (Kd.R_elder' (rx HO_551000.out) (Kd.R_base ho0) hb)
             replace HO_556000 := am (Kd.R_elder' (rx HO_556000.out) (Kd.R_base ho0) hb)
             replace HO_558000 := am (Kd.R_elder' (rx HO_558000.out) (Kd.R_base ho0) hb)
             replace BK545 := zk hb BK545
             replace BK550 := zk hb BK550
             replace BK555 := zk hb BK555
             replace BK557 := zk hb BK557
             replace BK563 := zk hb BK563
             replace HB := zs5 hb HB GE545 GE550 GE555 GE557 GE563
             refine hK.out _ _ ⟨ct BK557.out 0, HS1_, HS2_, HS3_, HS4_⟩ (fun hHeld => ?_)
             clear hK K
             refine znm 65 ?_
             refine zpu 6 59 #[true, true, true, true, true, true, true, false, false, true, false, false] HT_ ?_
             refine zpu 7 66 #[true, true, true, true, true, true, true, true, false, true, false, false] HT_ ?_
             refine zpu 8 67 #[true, true, true, true, true, true, true, true, true, true, false, false] HT_ ?_
             exact norm_ (by simp only [putAll, Act.put, List.setIfInBounds_toArray, List.set_cons_zero, List.set_cons_succ]) (hCont (v560, gb563) _ ⟨hHeld, (rx (Kd.R_mono HO561.out (fun _ hk => ⟨hk.1.1.1.2, ⟨hk.1.1.2, ⟨hk.1.2, hk.2⟩⟩⟩))), (rx HO_4.out), (rx (Kd.R_mono HO_546000.out (fun _ hk => ⟨hk.2, ⟨hk.1.1, hk.1.2⟩⟩))), (rx (Kd.R_mono HO_551000.out (fun _ hk => ⟨hk.2, ⟨hk.1.1, ⟨hk.1.2.1, hk.1.2.2⟩⟩⟩))), (rx (Kd.R_mono HO_556000.out (fun _ hk => ⟨hk.2, ⟨hk.1.1, ⟨hk.1.2.1, hk.1.2.2⟩⟩⟩))), (rx (Kd.R_mono HO_558000.out (fun _ hk => ⟨hk.2, ⟨hk.1.1, hk.1.2⟩⟩))), (rx HO_6.out), (kx BK545.out), (kx BK550.out), (kx BK555.out), (kx BK557.out), (kx BK563.out), GW563.out, GE563.out, NB545_563.out, NB563_545.out, NB550_563.out, NB563_550.out, NB555_563.out, NB563_555.out, NB557_563.out, NB563_557.out, (zb5 HB.out GE545.out GE550.out GE555.out GE557.out GE563.out)⟩)
           rintro ⟨v560, gb563⟩ w58 ⟨hS_, h0_, h1_, h2_, h3_, h4_, h5_, h6_, h7_, h8_, h9_, h10_, h11_, h12_, h13_, h14_, h15_, h16_, h17_, h18_, h19_, h20_, h21_, h22_⟩
           have n0_ : Aside0 (Kd.R k66 66 w58 w.heap.size (fun k_ => some k_ ≠ (.slice Ao10 t535.length co10 : Value).ownBlock ∧ some k_ ≠ (.slice Ao15 t546.length co15 : Value).ownBlock ∧ some k_ ≠ (.slice Ao21 t551.length co21 : Value).ownBlock ∧ some k_ ≠ (.slice Ao54 x558000_2.length co54 : Value).ownBlock) v560 t559) := ⟨h0_⟩
           have n1_ : Aside0 (Kd.R k35 35 w58 w.heap.size (fun _ => True) (.slice (some ad558) t538.length co12) t538) := ⟨h1_⟩
           have n2_ : Aside0 (Kd.R k66 66 w58 w.heap.size (fun k_ => some k_ ≠ (v560 : Value).ownBlock ∧ some k_ ≠ (.slice Ao15 t546.length co15 : Value).ownBlock ∧ some k_ ≠ (.slice Ao21 t551.length co21 : Value).ownBlock) (.slice Ao10 t535.length co10) t535) := ⟨h2_⟩
           have n3_ : Aside0 (Kd.R k66 66 w58 w.heap.size (fun k_ => some k_ ≠ (v560 : Value).ownBlock ∧ some k_ ≠ (.slice Ao10 t535.length co10 : Value).ownBlock ∧ some k_ ≠ (.slice Ao21 t551.length co21 : Value).ownBlock ∧ some k_ ≠ (.slice Ao54 x558000_2.length co54 : Value).ownBlock) (.slice Ao15 t546.length co15) t546) := ⟨h3_⟩
           have n4_ : Aside0 (Kd.R k66 66 w58 w.heap.size (fun k_ => some k_ ≠ (v560 : Value).ownBlock ∧ some k_ ≠ (.slice Ao10 t535.length co10 : Value).ownBlock ∧ some k_ ≠ (.slice Ao15 t546.length co15 : Value).ownBlock ∧ some k_ ≠ (.slice Ao54 x558000_2.length co54 : Value).ownBlock) (.slice Ao21 t551.length co21) t551) := ⟨h4_⟩
           have n5_ : Aside0 (Kd.R k66 66 w58 w.heap.size (fun k_ => some k_ ≠ (v560 : Value).ownBlock ∧ some k_ ≠ (.slice Ao15 t546.length co15 : Value).ownBlock ∧ some k_ ≠ (.slice Ao21 t551.length co21 : Value).ownBlock) (.slice Ao54 x558000_2.length co54) x558000_2) := ⟨h5_⟩
           have n6_ : Aside0 (Kd.R (Kd.int .i64) 3 w58 w.heap.size (fun _ => True) v543 t542) := ⟨h6_⟩
           have n7_ : Aside0 (w58.heap[gb545]? = some (.cells #[.slice Ao10 t535.length co10] 31 (0, 0))) := ⟨h7_⟩
           have n8_ : Aside0 (w58.heap[gb550]? = some (.cells #[.slice Ao15 t546.length co15] 31 (0, 0))) := ⟨h8_⟩
           have n9_ : Aside0 (w58.heap[gb555]? = some (.cells #[.slice Ao21 t551.length co21] 31 (0, 0))) := ⟨h9_⟩
           have n10_ : Aside0 (w58.heap[gb557]? = some (.cells #[.slice Ao54 x558000_2.length co54] 31 (0, 0))) := ⟨h10_⟩
           have n11_ : Aside0 (w58.heap[gb563]? = some (.cells #[.slice none 0 0] 31 (0, 0))) := ⟨h11_⟩
           have n12_ : Aside0 (w.heap.size ≤ gb563) := ⟨h12_⟩
           have n13_ : Aside0 (w.heap.size ≤ gb563) := ⟨h13_⟩
           have n14_ : Aside0 (gb545 ≠ gb563) := ⟨h14_⟩
           have n15_ : Aside0 (gb563 ≠ gb545) := ⟨h15_⟩
           have n16_ : Aside0 (gb550 ≠ gb563) := ⟨h16_⟩
           have n17_ : Aside0 (gb563 ≠ gb550) := ⟨h17_⟩
           have n18_ : Aside0 (gb555 ≠ gb563) := ⟨h18_⟩
           have n19_ : Aside0 (gb563 ≠ gb555) := ⟨h19_⟩
           have n20_ : Aside0 (gb557 ≠ gb563) := ⟨h20_⟩
           have n21_ : Aside0 (gb563 ≠ gb557) := ⟨h21_⟩
           have n22_ : Aside0 (Below w.heap.size w w58) := ⟨h22_⟩
           clear HO_4 HO_6 HO_546000 HO_551000 HO_556000 HO_558000 BK545 BK550 BK555 BK557 HB h0_ h1_ h2_ h3_ h4_ h5_ h6_ h7_ h8_ h9_ h10_ h11_ h12_ h13_ h14_ h15_ h16_ h17_ h18_ h19_ h20_ h21_ h22_
           have HO561 := n0_
           have HO_4 := n1_
           have HO_546000 := n2_
           have HO_551000 := n3_
           have HO_556000 := n4_
           have HO_558000 := n5_
           have HO_6 := n6_
           have BK545 := n7_
           have BK550 := n8_
           have BK555 := n9_
           have BK557 := n10_
           have BK563 := n11_
           have GW563 := n12_
           have GE563 := n13_
           have NB545_563 := n14_
           have NB563_545 := n15_
           have NB550_563 := n16_
           have NB563_550 := n17_
           have NB555_563 := n18_
           have NB563_555 := n19_
           have NB557_563 := n20_
           have NB563_557 := n21_
           have HB := n22_
           clear n0_ n1_ n2_ n3_ n4_ n5_ n6_ n7_ n8_ n9_ n10_ n11_ n12_ n13_ n14_ n15_ n16_ n17_ n18_ n19_ n20_ n21_ n22_
           have hHeld : w58.cell? ⟨gb557, 0, none⟩ = some (.slice Ao54 x558000_2.length co54) ∧ w58.cell? (ad558.add ((x12_2).toNat * 4)) = some (.int .i64 ((rd_T35 t538 x12_2).f0)) ∧ w58.cell? ⟨(ad558.add ((x12_2).toNat * 4)).block, (ad558.add ((x12_2).toNat * 4)).off + 1, none⟩ = some (.string ((rd_T35 t538 x12_2).f1)) ∧ w58.cell? ⟨(ad558.add ((x12_2).toNat * 4)).block, (ad558.add ((x12_2).toNat * 4)).off + 2, none⟩ = some (.string ((rd_T35 t538 x12_2).f2)) ∧ w58.cell? ⟨(ad558.add ((x12_2).toNat * 4)).block, (ad558.add ((x12_2).toNat * 4)).off + 3, none⟩ = some (.string ((rd_T35 t538 x12_2).f3)) := hS_
           obtain ⟨Ao59, co59, eo59⟩ := Kd.R_slice HO561.out
           (first | subst eo59 | (injection eo59 with f1_ f2_ f3_; have f4_ := f1_.symm; have f5_ := f3_.symm; clear f1_ f2_ f3_; subst f4_; subst f5_))
           refine norm_ (a' := ?_) ?_ ?_
           rotate_left
           ·simp only [putAll, Act.put, List.setIfInBounds_toArray, List.set_cons_zero, List.set_cons_succ]
            rfl
           refine zon 10 #[true, true, true, true, true, true, true, true, true, true, true, false] HT_ (fun K hK => ?_)
           have hs60 : w58.cell? ⟨gb563, 0, none⟩ = some (.slice none 0 0) := ct BK563.out 0
           have hfs60 := blk_frozen BK563.out 0
           have hns60_0 := NB545_563.out
           have hns60_1 := NB550_563.out
           have hns60_2 := NB555_563.out
           have hns60_3 := NB557_563.out
           have hms60_0 := NB563_545.out
           have hms60_1 := NB563_550.out
           have hms60_2 := NB563_555.out
           have hms60_3 := NB563_557.out
           refine skip_ (w1 := ?_) (by rfl) rfl ?_ ?_
           rotate_left
           ·go_simp
            rfl
           refine hK.out _ _ ⟨((cell_far (p := ⟨gb563, _, none⟩) NB557_563.out _).trans (hHeld.1)), ((cell_far (p := ⟨gb563, _, none⟩) (by first | exact Kd.own_blk (Kd.R_ne HO_4.out BK563.out (by decide)) | (rw [add_block]; exact Kd.own_blk (Kd.R_ne HO_4.out BK563.out (by decide))) | (show (Addr.add _ _).block ≠ _; rw [add_block]; exact Kd.own_blk (Kd.R_ne HO_4.out BK563.out (by decide))) | (dsimp only; exact Kd.own_blk (Kd.R_ne HO_4.out BK563.out (by decide)))) _).trans (hHeld.2.1)), ((cell_far (p := ⟨gb563, _, none⟩) (by first | exact Kd.own_blk (Kd.R_ne HO_4.out BK563.out (by decide)) | (rw [add_block]; exact Kd.own_blk (Kd.R_ne HO_4.out BK563.out (by decide))) | (show (Addr.add _ _).block ≠ _; rw [add_block]; exact Kd.own_blk (Kd.R_ne HO_4.out BK563.out (by decide))) | (dsimp only; exact Kd.own_blk (Kd.R_ne HO_4.out BK563.out (by decide)))) _).trans (hHeld.2.2.1)), ((cell_far (p := ⟨gb563, _, none⟩) (by first | exact Kd.own_blk (Kd.R_ne HO_4.out BK563.out (by decide)) | (rw [add_block]; exact Kd.own_blk (Kd.R_ne HO_4.out BK563.out (by decide))) | (show (Addr.add _ _).block ≠ _; rw [add_block]; exact Kd.own_blk (Kd.R_ne HO_4.out BK563.out (by decide))) | (dsimp only; exact Kd.own_blk (Kd.R_ne HO_4.out BK563.out (by decide)))) _).trans (hHeld.2.2.2.1)), ((cell_far (p := ⟨gb563, _, none⟩) (by first | exact Kd.own_blk (Kd.R_ne HO_4.out BK563.out (by decide)) | (rw [add_block]; exact Kd.own_blk (Kd.R_ne HO_4.out BK563.out (by decide))) | (show (Addr.add _ _).block ≠ _; rw [add_block]; exact Kd.own_blk (Kd.R_ne HO_4.out BK563.out (by decide))) | (dsimp only; exact Kd.own_blk (Kd.R_ne HO_4.out BK563.out (by decide)))) _).trans (hHeld.2.2.2.2))⟩ (fun hHeld => ?_)
           clear hK K
           refine zpu 11 14 #[true, true, true, true, true, true, true, true, true, true, true, true] HT_ ?_
           refine zdn HT_ ?_
           try go_wp2
           have n0_ : Aside0 (Kd.R k35 35 (w58.setCell ⟨gb563, 0, none⟩ (.slice Ao59 t559.length co59)) w.heap.size (fun _ => True) (.slice (some ad558) t538.length co12) t538) := ⟨rx (Kd.R_mono (Kd.R_far (p := ⟨gb563, 0, none⟩) (Kd.R_types HO_4.out BK563.out (by decide)) (fun _ hk => hk.2) (.slice Ao59 t559.length co59)) (fun _ hk => trivial))⟩
           have n1_ : Aside0 (Kd.R (Kd.int .i64) 3 (w58.setCell ⟨gb563, 0, none⟩ (.slice Ao59 t559.length co59)) w.heap.size (fun _ => True) v543 t542) := ⟨rx (Kd.R_mono (Kd.R_far (p := ⟨gb563, 0, none⟩) (Kd.R_types HO_6.out BK563.out (by decide)) (fun _ hk => hk.2) (.slice Ao59 t559.length co59)) (fun _ hk => trivial))⟩
           have n2_ : Aside0 (Kd.R k66 66 (w58.setCell ⟨gb563, 0, none⟩ (.slice Ao59 t559.length co59)) w.heap.size (fun k_ => some k_ ≠ (.slice Ao15 t546.length co15 : Value).ownBlock ∧ some k_ ≠ (.slice Ao21 t551.length co21 : Value).ownBlock ∧ some k_ ≠ (.slice Ao59 t559.length co59 : Value).ownBlock) (.slice Ao10 t535.length co10) t535) := ⟨rx (Kd.R_mono (Kd.R_far (p := ⟨gb563, 0, none⟩) (Kd.R_types HO_546000.out BK563.out (by decide)) (fun _ hk => hk.2) (.slice Ao59 t559.length co59)) (fun _ hk => ⟨hk.1.2.1, ⟨hk.1.2.2, hk.1.1⟩⟩))⟩
           have n3_ : Aside0 (Kd.R k66 66 (w58.setCell ⟨gb563, 0, none⟩ (.slice Ao59 t559.length co59)) w.heap.size (fun k_ => some k_ ≠ (.slice Ao10 t535.length co10 : Value).ownBlock ∧ some k_ ≠ (.slice Ao21 t551.length co21 : Value).ownBlock ∧ some k_ ≠ (.slice Ao54 x558000_2.length co54 : Value).ownBlock ∧ some k_ ≠ (.slice Ao59 t559.length co59 : Value).ownBlock) (.slice Ao15 t546.length co15) t546) := ⟨rx (Kd.R_mono (Kd.R_far (p := ⟨gb563, 0, none⟩) (Kd.R_types HO_551000.out BK563.out (by decide)) (fun _ hk => hk.2) (.slice Ao59 t559.length co59)) (fun _ hk => ⟨hk.1.2.1, ⟨hk.1.2.2.1, ⟨hk.1.2.2.2, hk.1.1⟩⟩⟩))⟩
           have n4_ : Aside0 (Kd.R k66 66 (w58.setCell ⟨gb563, 0, none⟩ (.slice Ao59 t559.length co59)) w.heap.size (fun k_ => some k_ ≠ (.slice Ao10 t535.length co10 : Value).ownBlock ∧ some k_ ≠ (.slice Ao15 t546.length co15 : Value).ownBlock ∧ some k_ ≠ (.slice Ao54 x558000_2.length co54 : Value).ownBlock ∧ some k_ ≠ (.slice Ao59 t559.length co59 : Value).ownBlock) (.slice Ao21 t551.length co21) t551) := ⟨rx (Kd.R_mono (Kd.R_far (p := ⟨gb563, 0, none⟩) (Kd.R_types HO_556000.out BK563.out (by decide)) (fun _ hk => hk.2) (.slice Ao59 t559.length co59)) (fun _ hk => ⟨hk.1.2.1, ⟨hk.1.2.2.1, ⟨hk.1.2.2.2, hk.1.1⟩⟩⟩))⟩
           have n5_ : Aside0 (Kd.R k66 66 (w58.setCell ⟨gb563, 0, none⟩ (.slice Ao59 t559.length co59)) w.heap.size (fun k_ => some k_ ≠ (.slice Ao15 t546.length co15 : Value).ownBlock ∧ some k_ ≠ (.slice Ao21 t551.length co21 : Value).ownBlock ∧ some k_ ≠ (.slice Ao59 t559.length co59 : Value).ownBlock) (.slice Ao54 x558000_2.length co54) x558000_2) := ⟨rx (Kd.R_mono (Kd.R_far (p := ⟨gb563, 0, none⟩) (Kd.R_types HO_558000.out BK563.out (by decide)) (fun _ hk => hk.2) (.slice Ao59 t559.length co59)) (fun _ hk => ⟨hk.1.2.1, ⟨hk.1.2.2, hk.1.1⟩⟩))⟩
           have n6_ : Aside0 (Kd.R k66 66 (w58.setCell ⟨gb563, 0, none⟩ (.slice Ao59 t559.length co59)) w.heap.size (fun k_ => some k_ ≠ (.slice Ao10 t535.length co10 : Value).ownBlock ∧ some k_ ≠ (.slice Ao15 t546.length co15 : Value).ownBlock ∧ some k_ ≠ (.slice Ao21 t551.length co21 : Value).ownBlock ∧ some k_ ≠ (.slice Ao54 x558000_2.length co54 : Value).ownBlock) (.slice Ao59 t559.length co59) t559) := ⟨rx (Kd.R_mono (Kd.R_far (p := ⟨gb563, 0, none⟩) (Kd.R_types HO561.out BK563.out (by decide)) (fun _ hk => hk.2) (.slice Ao59 t559.length co59)) (fun _ hk => ⟨hk.1.1, ⟨hk.1.2.1, ⟨hk.1.2.2.1, hk.1.2.2.2⟩⟩⟩))⟩
           have n7_ : Aside0 ((w58.setCell ⟨gb563, 0, none⟩ (.slice Ao59 t559.length co59)).heap[gb545]? = some (.cells #[.slice Ao10 t535.length co10] 31 (0, 0))) := ⟨zf1 BK545.out NB545_563.out⟩
           have n8_ : Aside0 ((w58.setCell ⟨gb563, 0, none⟩ (.slice Ao59 t559.length co59)).heap[gb550]? = some (.cells #[.slice Ao15 t546.length co15] 31 (0, 0))) := ⟨zf1 BK550.out NB550_563.out⟩
           have n9_ : Aside0 ((w58.setCell ⟨gb563, 0, none⟩ (.slice Ao59 t559.length co59)).heap[gb555]? = some (.cells #[.slice Ao21 t551.length co21] 31 (0, 0))) := ⟨zf1 BK555.out NB555_563.out⟩
           have n10_ : Aside0 ((w58.setCell ⟨gb563, 0, none⟩ (.slice Ao59 t559.length co59)).heap[gb557]? = some (.cells #[.slice Ao54 x558000_2.length co54] 31 (0, 0))) := ⟨zf1 BK557.out NB557_563.out⟩
           have n11_ : Aside0 ((w58.setCell ⟨gb563, 0, none⟩ (.slice Ao59 t559.length co59)).heap[gb563]? = some (.cells #[.slice Ao59 t559.length co59] 31 (0, 0))) := ⟨(zp0 BK563.out)⟩
           have n12_ : Aside0 (Below w.heap.size w (w58.setCell ⟨gb563, 0, none⟩ (.slice Ao59 t559.length co59))) := ⟨zb5 HB.out GE545.out GE550.out GE555.out GE557.out GE563.out⟩
           generalize (w58.setCell ⟨gb563, 0, none⟩ (.slice Ao59 t559.length co59)) = w61 at n0_ n1_ n2_ n3_ n4_ n5_ n6_ n7_ n8_ n9_ n10_ n11_ n12_ ⊢
           have HO_4 := n0_
           have HO_6 := n1_
           have HO_546000 := n2_
           have HO_551000 := n3_
           have HO_556000 := n4_
           have HO_558000 := n5_
           have HO561 := n6_
           have BK545 := n7_
           have BK550 := n8_
           have BK555 := n9_
           have BK557 := n10_
           have BK563 := n11_
           have HB := n12_
           clear n0_ n1_ n2_ n3_ n4_ n5_ n6_ n7_ n8_ n9_ n10_ n11_ n12_
           replace HO_4 := am (Kd.R_drew HO_4.out)
           replace HO_6 := am (Kd.R_drew HO_6.out)
           replace HO_546000 := am (Kd.R_drew HO_546000.out)
           replace HO_551000 := am (Kd.R_drew HO_551000.out)
           replace HO_556000 := am (Kd.R_drew HO_556000.out)
           replace HO_558000 := am (Kd.R_drew HO_558000.out)
           replace HO561 := am (Kd.R_drew HO561.out)
           replace BK545 := zw BK545
           replace BK550 := zw BK550
           replace BK555 := zw BK555
           replace BK557 := zw BK557
           replace BK563 := zw BK563
           replace HB := am (below_drew1 HB.out)
           have p564 : 0 ≤ (x12_2 : Int) := zpq
           have q564 : x12_2 < (t538.length : Int) := zpq
           obtain ⟨ad564, e564, hx564_0, hx564_1, hx564_2, hx564_3⟩ := at_T35 (Kd.R_reads' HO_4.out).2.2 x12_2 p564 q564
           obtain rfl : ad558 = ad564 := (by injection e564)
           replace p564 := eq_true p564
           replace q564 := eq_true q564
           refine start_ (n := 12) (S := fun w' => w'.cell? ⟨gb557, 0, none⟩ = some (.slice Ao54 x558000_2.length co54) ∧ w'.cell? (ad558.add ((x12_2).toNat * 4)) = some (.int .i64 ((rd_T35 t538 x12_2).f0)) ∧ w'.cell? ⟨(ad558.add ((x12_2).toNat * 4)).block, (ad558.add ((x12_2).toNat * 4)).off + 1, none⟩ = some (.string ((rd_T35 t538 x12_2).f1)) ∧ w'.cell? ⟨(ad558.add ((x12_2).toNat * 4)).block, (ad558.add ((x12_2).toNat * 4)).off + 2, none⟩ = some (.string ((rd_T35 t538 x12_2).f2)) ∧ w'.cell? ⟨(ad558.add ((x12_2).toNat * 4)).block, (ad558.add ((x12_2).toNat * 4)).off + 3, none⟩ = some (.string ((rd_T35 t538 x12_2).f3))) (ds := []) #[false, false, false, false, false, false, false, false, false, false, false, false] (by kernel_rfl) rfl rfl ⟨ct BK557.out 0, hx564_0, hx564_1, hx564_2, hx564_3⟩ (fun hHeld => ?_); refine with_tabW laws_FnActs.tab15 laws_FnActs.bits15 (fun HT_ HW_ => ?_)
           generalize w61.drew = w62 at HO_4 HO_6 HO_546000 HO_551000 HO_556000 HO_558000 HO561 BK545 BK550 BK555 BK557 BK563 HB hx564_0 hx564_1 hx564_2 hx564_3 hHeld ⊢
           refine zpu 1 72 #[false, true, false, false, false, false, false, false, false, false, false, false] HT_ ?_
           refine zpu 2 73 #[false, true, true, false, false, false, false, false, false, false, false, false] HT_ ?_
           refine zpu 3 74 #[false, true, true, true, false, false, false, false, false, false, false, false] HT_ ?_
           refine zpu 4 75 #[false, true, true, true, true, false, false, false, false, false, false, false] HT_ ?_
           refine ztk5 0 71 #[true, true, true, true, true, false, false, false, false, false, false, false] HT_ HW_ hHeld ?_
           refine ztk5 5 76 #[true, true, true, true, true, true, false, false, false, false, false, false] HT_ HW_ hHeld ?_
           refine zon 6 #[true, true, true, true, true, true, true, false, false, false, false, false] HT_ (fun K hK => ?_)
           refine goes_ Try.func25 (by kernel_rfl) rfl #[.agg #[.slice Ao54 x558000_2.length co54], .string ((rd_T35 t538 x12_2).f1)] (by rfl) rfl rfl zr ?_
           with_reducible refine (impl_FileAt.calls _ _ x558000_2 ((rd_T35 t538 x12_2).f1) t565 t566 _ ?side1 ?side2 A47.out).mono ?_
           (case side1 => repeat (first | exact (Kd.R_reads' HO_558000.out).2.2 | (with_reducible refine Kd.C_alloc ?_ _) | (with_reducible refine Kd.C_drewN ?_ _) | (with_reducible refine Kd.C_drew ?_)))
           (case side2 => exact (Kd.R_reads' HO_558000.out).2.1)
           rintro e w63 ⟨rfl, hb⟩
           have HS1_ := (hb.cell (World.block_lt_of_cell? _ _ (hHeld.2.1))).trans (hHeld.2.1)
           have HS2_ := (hb.cell (World.block_lt_of_cell? _ _ (hHeld.2.2.1))).trans (hHeld.2.2.1)
           have HS3_ := (hb.cell (World.block_lt_of_cell? _ _ (hHeld.2.2.2.1))).trans (hHeld.2.2.2.1)
           have HS4_ := (hb.cell (World.block_lt_of_cell? _ _ (hHeld.2.2.2.2))).trans (hHeld.2.2.2.2)
           refine ⟨_, rfl, ?_⟩
           replace HO_4 := zo hb HO_4
           replace HO_6 := zo hb HO_6
           replace HO_546000 := zo hb HO_546000
           replace HO_551000 := zo hb HO_551000
           replace HO_556000 := zo hb HO_556000
           replace HO_558000 := zo hb HO_558000
           replace HO561 := zo hb HO561
           replace BK545 := zk hb BK545
           replace BK550 := zk hb BK550
           replace BK555 := zk hb BK555
           replace BK557 := zk hb BK557
           replace BK563 := zk hb BK563
           replace HB := zs5 hb HB GE545 GE550 GE555 GE557 GE563
           refine hK.out _ _ ⟨ct BK557.out 0, HS1_, HS2_, HS3_, HS4_⟩ (fun hHeld => ?_)
           clear hK K
           refine znm 77 ?_
           refine zpu 7 70 #[true, true, true, true, true, true, true, true, false, false, false, false] HT_ ?_
           refine zpu 8 78 #[true, true, true, true, true, true, true, true, true, false, false, false] HT_ ?_
           refine zpu 9 79 #[true, true, true, true, true, true, true, true, true, true, false, false] HT_ ?_
           refine zpu 10 15 #[true, true, true, true, true, true, true, true, true, true, true, false] HT_ ?_
           refine zpu 11 16 #[true, true, true, true, true, true, true, true, true, true, true, true] HT_ ?_
           refine zdn HT_ ?_
           try go_wp2
           replace HO_4 := am (Kd.R_drew HO_4.out)
           replace HO_6 := am (Kd.R_drew HO_6.out)
           replace HO_546000 := am (Kd.R_drew HO_546000.out)
           replace HO_551000 := am (Kd.R_drew HO_551000.out)
           replace HO_556000 := am (Kd.R_drew HO_556000.out)
           replace HO_558000 := am (Kd.R_drew HO_558000.out)
           replace HO561 := am (Kd.R_drew HO561.out)
           replace BK545 := zw BK545
           replace BK550 := zw BK550
           replace BK555 := zw BK555
           replace BK557 := zw BK557
           replace BK563 := zw BK563
           replace HB := am (below_drew1 HB.out)
           have p567 : 0 ≤ (x12_2 : Int) := zpq
           have q567 : x12_2 < (t538.length : Int) := zpq
           obtain ⟨ad567, e567, hx567_0, hx567_1, hx567_2, hx567_3⟩ := at_T35 (Kd.R_reads' HO_4.out).2.2 x12_2 p567 q567
           obtain rfl : ad558 = ad567 := (by injection e567)
           replace p567 := eq_true p567
           replace q567 := eq_true q567
           refine start_ (n := 12) (S := fun w' => w'.cell? ⟨gb563, 0, none⟩ = some (.slice Ao59 t559.length co59) ∧ w'.cell? (ad558.add ((x12_2).toNat * 4)) = some (.int .i64 ((rd_T35 t538 x12_2).f0)) ∧ w'.cell? ⟨(ad558.add ((x12_2).toNat * 4)).block, (ad558.add ((x12_2).toNat * 4)).off + 1, none⟩ = some (.string ((rd_T35 t538 x12_2).f1)) ∧ w'.cell? ⟨(ad558.add ((x12_2).toNat * 4)).block, (ad558.add ((x12_2).toNat * 4)).off + 2, none⟩ = some (.string ((rd_T35 t538 x12_2).f2)) ∧ w'.cell? ⟨(ad558.add ((x12_2).toNat * 4)).block, (ad558.add ((x12_2).toNat * 4)).off + 3, none⟩ = some (.string ((rd_T35 t538 x12_2).f3))) (ds := []) #[false, false, false, false, false, false, false, false, false, false, false, false] (by kernel_rfl) rfl rfl ⟨ct BK563.out 0, hx567_0, hx567_1, hx567_2, hx567_3⟩ (fun hHeld => ?_); refine with_tabW laws_FnActs.tab16 laws_FnActs.bits16 (fun HT_ HW_ => ?_)
           generalize w63.drew = w64 at HO_4 HO_6 HO_546000 HO_551000 HO_556000 HO_558000 HO561 BK545 BK550 BK555 BK557 BK563 HB hx567_0 hx567_1 hx567_2 hx567_3 hHeld ⊢
           refine zpu 1 82 #[false, true, false, false, false, false, false, false, false, false, false, false] HT_ ?_
           refine zpu 2 83 #[false, true, true, false, false, false, false, false, false, false, false, false] HT_ ?_
           refine zpu 3 84 #[false, true, true, true, false, false, false, false, false, false, false, false] HT_ ?_
           refine zpu 4 85 #[false, true, true, true, true, false, false, false, false, false, false, false] HT_ ?_
           refine ztk5 0 81 #[true, true, true, true, true, false, false, false, false, false, false, false] HT_ HW_ hHeld ?_
           refine ztk5 5 86 #[true, true, true, true, true, true, false, false, false, false, false, false] HT_ HW_ hHeld ?_
           refine zon 6 #[true, true, true, true, true, true, true, false, false, false, false, false] HT_ (fun K hK => ?_)
           refine goes_ Try.func25 (by kernel_rfl) rfl #[.agg #[.slice Ao59 t559.length co59], .string ((rd_T35 t538 x12_2).f1)] (by rfl) rfl rfl zr ?_
           with_reducible refine (impl_FileAt.calls _ _ t559 ((rd_T35 t538 x12_2).f1) t568 t569 _ ?side1 ?side2 A48.out).mono ?_
           (case side1 => repeat (first | exact (Kd.R_reads' HO561.out).2.2 | (with_reducible refine Kd.C_alloc ?_ _) | (with_reducible refine Kd.C_drewN ?_ _) | (with_reducible refine Kd.C_drew ?_)))
           (case side2 => exact (Kd.R_reads' HO561.out).2.1)
           rintro e w65 ⟨rfl, hb⟩
           have HS1_ := (hb.cell (World.block_lt_of_cell? _ _ (hHeld.2.1))).trans (hHeld.2.1)
           have HS2_ := (hb.cell (World.block_lt_of_cell? _ _ (hHeld.2.2.1))).trans (hHeld.2.2.1)
           have HS3_ := (hb.cell (World.block_lt_of_cell? _ _ (hHeld.2.2.2.1))).trans (hHeld.2.2.2.1)
           have HS4_ := (hb.cell (World.block_lt_of_cell? _ _ (hHeld.2.2.2.2))).trans (hHeld.2.2.2.2)
           refine ⟨_, rfl, ?_⟩
           replace HO_4 := zo hb HO_4
           replace HO_6 := zo hb HO_6
           replace HO_546000 := zo hb HO_546000
           replace HO_551000 := zo hb HO_551000
           replace HO_556000 := zo hb HO_556000
           replace HO_558000 := zo hb HO_558000
           replace HO561 := zo hb HO561
           replace BK545 := zk hb BK545
           replace BK550 := zk hb BK550
           replace BK555 := zk hb BK555
           replace BK557 := zk hb BK557
           replace BK563 := zk hb BK563
           replace HB := zs5 hb HB GE545 GE550 GE555 GE557 GE563
           refine hK.out _ _ ⟨ct BK563.out 0, HS1_, HS2_, HS3_, HS4_⟩ (fun hHeld => ?_)
           clear hK K
           refine znm 87 ?_
           refine zpu 7 80 #[true, true, true, true, true, true, true, true, false, false, false, false] HT_ ?_
           refine zpu 8 88 #[true, true, true, true, true, true, true, true, true, false, false, false] HT_ ?_
           refine zpu 9 89 #[true, true, true, true, true, true, true, true, true, true, false, false] HT_ ?_
           refine zpu 10 17 #[true, true, true, true, true, true, true, true, true, true, true, false] HT_ ?_
           refine zpu 11 18 #[true, true, true, true, true, true, true, true, true, true, true, true] HT_ ?_
           refine zdn HT_ ?_
           have p570 : 0 ≤ (x12_2 : Int) := zpq
           have q570 : x12_2 < (t538.length : Int) := zpq
           obtain ⟨ad570, e570, hx570_0, hx570_1, hx570_2, hx570_3⟩ := at_T35 (Kd.R_reads' HO_4.out).2.2 x12_2 p570 q570
           obtain rfl : ad558 = ad570 := (by injection e570)
           replace p570 := eq_true p570
           replace q570 := eq_true q570
           have p571 : 0 ≤ (x12_2 : Int) := zpq
           have q571 : x12_2 < (t538.length : Int) := zpq
           obtain ⟨ad571, e571, hx571_0, hx571_1, hx571_2, hx571_3⟩ := at_T35 (Kd.R_reads' HO_4.out).2.2 x12_2 p571 q571
           obtain rfl : ad558 = ad571 := (by injection e571)
           replace p571 := eq_true p571
           replace q571 := eq_true q571
           have H := HD_.out
           clear HD_
           by_cases c49 : ((rd_T35 t538 x12_2).f0) = 1
           ·rw [if_pos c49] at H
            have c49b0 : (((rd_T35 t538 x12_2).f0) == 1) = true := beq_iff_eq.mpr c49
            have c49b1 : (((rd_T35 t538 x12_2).f0) != 1) = false := bne_eq_false_iff_eq.mpr c49
            clear c49
            by_cases c50 : t569 = true
            ·subst c50
             have H1 : (if t565.size + ((rd_T35 t538 x12_2).f2).size ≤ 9223372036854775807 then (if t568.toList = (t565 ++ ((rd_T35 t538 x12_2).f2)).toList then (if ((rd_T35 t538 x12_2).f0) = 4 then (some false) else (laws_FnActs.l0 k2 t538 t541 t542 t549 (wrap64 (x12_2 + 1)) t535 t546 t559)) else (some false)) else (none)) = some r := by rw [if_pos rfl] at H; exact H
             clear H
             have H := H1
             clear H1
             by_cases c51 : t565.size + ((rd_T35 t538 x12_2).f2).size ≤ 9223372036854775807
             ·rw [if_pos c51] at H
              have c51b0 := eq_true c51
              have c51b1 : decide (t565.size + ((rd_T35 t538 x12_2).f2).size ≤ 9223372036854775807) = true := decide_eq_true c51
              try have c51b2 : (9223372036854775807 < t565.size + ((rd_T35 t538 x12_2).f2).size) = False := eq_false (Nat.not_lt.2 c51)
              by_cases c52 : t568.toList = (t565 ++ ((rd_T35 t538 x12_2).f2)).toList
              ·rw [if_pos c52] at H
               have c52b0 : (t568.toList == (t565 ++ ((rd_T35 t538 x12_2).f2)).toList) = true := beq_iff_eq.mpr c52
               have c52b1 : (t568.toList != (t565 ++ ((rd_T35 t538 x12_2).f2)).toList) = false := bne_eq_false_iff_eq.mpr c52
               clear c52
               by_cases c53 : ((rd_T35 t538 x12_2).f0) = 4
               ·rw [if_pos c53] at H
                have c53b0 : (((rd_T35 t538 x12_2).f0) == 4) = true := beq_iff_eq.mpr c53
                have c53b1 : (((rd_T35 t538 x12_2).f0) != 4) = false := bne_eq_false_iff_eq.mpr c53
                clear c53
                exact absurd ((Option.some.inj H).trans HLT.out) (by decide)
               ·rw [if_neg c53] at H
                have c53b0 : (((rd_T35 t538 x12_2).f0) == 4) = false := beq_eq_false_iff_ne.mpr c53
                have c53b1 : (((rd_T35 t538 x12_2).f0) != 4) = true := bne_iff_ne.mpr c53
                have H' := Aside0.mk H
                clear H
                have p572 : 0 ≤ (x12_2 : Int) := zpq
                have q572 : x12_2 < (t538.length : Int) := zpq
                obtain ⟨ad572, e572, hx572_0, hx572_1, hx572_2, hx572_3⟩ := at_T35 (Kd.R_reads' HO_4.out).2.2 x12_2 p572 q572
                obtain rfl : ad558 = ad572 := (by injection e572)
                replace p572 := eq_true p572
                replace q572 := eq_true q572
                obtain ⟨hnb66, hnc66⟩ := zn2 NB563_545
                obtain ⟨hnb67, hnc67⟩ := zn2 NB563_550
                obtain ⟨hnb68, hnc68⟩ := zn2 NB563_555
                obtain ⟨hnb69, hnc69⟩ := zn2 NB563_557
                obtain ⟨hcz70_0, hfz70_0⟩ := zc1 BK563.out
                obtain ⟨hnb71, hnc71⟩ := zn2 NB557_545
                obtain ⟨hnb72, hnc72⟩ := zn2 NB557_550
                obtain ⟨hnb73, hnc73⟩ := zn2 NB557_555
                obtain ⟨hcz74_0, hfz74_0⟩ := zc1 BK557.out
                try go_wp2
                go_roundg k2
                case measure => have := HJ6.out; have := HK2.out; omega
                case rel => exact ⟨(wrap64 (x12_2 + 1)), (t559), (.slice Ao59 t559.length co59), (by first | rfl | (simp; done) | (simp [*]; done)), H', ⟨by have := HJ6.out; have := HK2.out; omega⟩, ⟨rx (Kd.R_mono (Kd.R_far (p := ⟨gb557, 0, none⟩) (Kd.R_types HO_4.out BK557.out (by decide)) (fun _ hk => hk.2) (.slice Ao59 t559.length co59)) (fun _ hk => trivial))⟩, ⟨rx (Kd.R_mono (Kd.R_far (p := ⟨gb557, 0, none⟩) (Kd.R_types HO_6.out BK557.out (by decide)) (fun _ hk => hk.2) (.slice Ao59 t559.length co59)) (fun _ hk => trivial))⟩, ⟨rx (Kd.R_mono (Kd.R_far (p := ⟨gb557, 0, none⟩) (Kd.R_types HO_546000.out BK557.out (by decide)) (fun _ hk => hk.2) (.slice Ao59 t559.length co59)) (fun _ hk => by refine ⟨?_, ?_⟩ <;> first | exact hk.1.1 | exact hk.1.2.1 | exact hk.1.2.2 | exact hk.1.2.2.1 | exact hk.1.2.2.2))⟩, ⟨rx (Kd.R_mono (Kd.R_far (p := ⟨gb557, 0, none⟩) (Kd.R_types HO_551000.out BK557.out (by decide)) (fun _ hk => hk.2) (.slice Ao59 t559.length co59)) (fun _ hk => ⟨hk.1.1, ⟨hk.1.2.1, hk.1.2.2.2⟩⟩))⟩, ⟨rx (Kd.R_mono (Kd.R_far (p := ⟨gb557, 0, none⟩) (Kd.R_types HO_556000.out BK557.out (by decide)) (fun _ hk => hk.2) (.slice Ao59 t559.length co59)) (fun _ hk => ⟨hk.1.1, ⟨hk.1.2.1, hk.1.2.2.2⟩⟩))⟩, ⟨rx (Kd.R_mono (Kd.R_far (p := ⟨gb557, 0, none⟩) (Kd.R_types HO561.out BK557.out (by decide)) (fun _ hk => hk.2) (.slice Ao59 t559.length co59)) (fun _ hk => by refine ⟨?_, ?_⟩ <;> first | exact hk.1.1 | exact hk.1.2.1 | exact hk.1.2.2 | exact hk.1.2.2.1 | exact hk.1.2.2.2))⟩, ⟨zf1 BK545.out NB545_557.out⟩, ⟨zf1 BK550.out NB550_557.out⟩, ⟨zf1 BK555.out NB555_557.out⟩, ⟨by (with_reducible repeat (first | refine blk_drewN ?_ _ | refine blk_drew ?_ | refine blk_alloc ?_ _)); refine blk_put (cs := #[.slice Ao54 x558000_2.length co54]) ?_ 0 _ rfl; (with_reducible repeat (first | refine blk_drewN ?_ _ | refine blk_drew ?_ | refine blk_alloc ?_ _)); exact BK557.out⟩, ⟨zb5 HB.out GE545.out GE550.out GE555.out GE557.out GE563.out⟩⟩
              ·rw [if_neg c52] at H
               have c52b0 : (t568.toList == (t565 ++ ((rd_T35 t538 x12_2).f2)).toList) = false := beq_eq_false_iff_ne.mpr c52
               have c52b1 : (t568.toList != (t565 ++ ((rd_T35 t538 x12_2).f2)).toList) = true := bne_iff_ne.mpr c52
               exact absurd ((Option.some.inj H).trans HLT.out) (by decide)
             ·rw [if_neg c51] at H
              exact absurd H (by simp)
            ·replace c50 := Bool.eq_false_iff.mpr c50
             subst c50
             have H1 : (some false) = some r := by rw [if_neg (show ¬ (false = true) by decide)] at H; exact H
             clear H
             have H := H1
             clear H1
             exact absurd ((Option.some.inj H).trans HLT.out) (by decide)
           ·rw [if_neg c49] at H
            have c49b0 : (((rd_T35 t538 x12_2).f0) == 1) = false := beq_eq_false_iff_ne.mpr c49
            have c49b1 : (((rd_T35 t538 x12_2).f0) != 1) = true := bne_iff_ne.mpr c49
            by_cases c75 : ((rd_T35 t538 x12_2).f0) = 4
            ·rw [if_pos c75] at H
             have c75b0 : (((rd_T35 t538 x12_2).f0) == 4) = true := beq_iff_eq.mpr c75
             have c75b1 : (((rd_T35 t538 x12_2).f0) != 4) = false := bne_eq_false_iff_eq.mpr c75
             clear c75
             by_cases c76 : t569 = true
             ·subst c76
              have H1 : (some false) = some r := by rw [if_pos rfl] at H; exact H
              clear H
              have H := H1
              clear H1
              exact absurd ((Option.some.inj H).trans HLT.out) (by decide)
             ·replace c76 := Bool.eq_false_iff.mpr c76
              subst c76
              have H1 : (laws_FnActs.l0 k2 t538 t541 t542 t549 (wrap64 (x12_2 + 1)) t535 t546 t559) = some r := by rw [if_neg (show ¬ (false = true) by decide)] at H; exact H
              clear H
              have H := H1
              clear H1
              have H' := Aside0.mk H
              clear H
              obtain ⟨hnb89, hnc89⟩ := zn2 NB563_545
              obtain ⟨hnb90, hnc90⟩ := zn2 NB563_550
              obtain ⟨hnb91, hnc91⟩ := zn2 NB563_555
              obtain ⟨hnb92, hnc92⟩ := zn2 NB563_557
              obtain ⟨hcz93_0, hfz93_0⟩ := zc1 BK563.out
              obtain ⟨hnb94, hnc94⟩ := zn2 NB557_545
              obtain ⟨hnb95, hnc95⟩ := zn2 NB557_550
              obtain ⟨hnb96, hnc96⟩ := zn2 NB557_555
              obtain ⟨hcz97_0, hfz97_0⟩ := zc1 BK557.out
              try go_wp2
              go_roundg k2
              case measure => have := HJ6.out; have := HK2.out; omega
              case rel => exact ⟨(wrap64 (x12_2 + 1)), (t559), (.slice Ao59 t559.length co59), (by first | rfl | (simp; done) | (simp [*]; done)), H', ⟨by have := HJ6.out; have := HK2.out; omega⟩, ⟨rx (Kd.R_mono (Kd.R_far (p := ⟨gb557, 0, none⟩) (Kd.R_types HO_4.out BK557.out (by decide)) (fun _ hk => hk.2) (.slice Ao59 t559.length co59)) (fun _ hk => trivial))⟩, ⟨rx (Kd.R_mono (Kd.R_far (p := ⟨gb557, 0, none⟩) (Kd.R_types HO_6.out BK557.out (by decide)) (fun _ hk => hk.2) (.slice Ao59 t559.length co59)) (fun _ hk => trivial))⟩, ⟨rx (Kd.R_mono (Kd.R_far (p := ⟨gb557, 0, none⟩) (Kd.R_types HO_546000.out BK557.out (by decide)) (fun _ hk => hk.2) (.slice Ao59 t559.length co59)) (fun _ hk => by refine ⟨?_, ?_⟩ <;> first | exact hk.1.1 | exact hk.1.2.1 | exact hk.1.2.2 | exact hk.1.2.2.1 | exact hk.1.2.2.2))⟩, ⟨rx (Kd.R_mono (Kd.R_far (p := ⟨gb557, 0, none⟩) (Kd.R_types HO_551000.out BK557.out (by decide)) (fun _ hk => hk.2) (.slice Ao59 t559.length co59)) (fun _ hk => ⟨hk.1.1, ⟨hk.1.2.1, hk.1.2.2.2⟩⟩))⟩, ⟨rx (Kd.R_mono (Kd.R_far (p := ⟨gb557, 0, none⟩) (Kd.R_types HO_556000.out BK557.out (by decide)) (fun _ hk => hk.2) (.slice Ao59 t559.length co59)) (fun _ hk => ⟨hk.1.1, ⟨hk.1.2.1, hk.1.2.2.2⟩⟩))⟩, ⟨rx (Kd.R_mono (Kd.R_far (p := ⟨gb557, 0, none⟩) (Kd.R_types HO561.out BK557.out (by decide)) (fun _ hk => hk.2) (.slice Ao59 t559.length co59)) (fun _ hk => by refine ⟨?_, ?_⟩ <;> first | exact hk.1.1 | exact hk.1.2.1 | exact hk.1.2.2 | exact hk.1.2.2.1 | exact hk.1.2.2.2))⟩, ⟨zf1 BK545.out NB545_557.out⟩, ⟨zf1 BK550.out NB550_557.out⟩, ⟨zf1 BK555.out NB555_557.out⟩, ⟨by (with_reducible repeat (first | refine blk_drewN ?_ _ | refine blk_drew ?_ | refine blk_alloc ?_ _)); refine blk_put (cs := #[.slice Ao54 x558000_2.length co54]) ?_ 0 _ rfl; (with_reducible repeat (first | refine blk_drewN ?_ _ | refine blk_drew ?_ | refine blk_alloc ?_ _)); exact BK557.out⟩, ⟨zb5 HB.out GE545.out GE550.out GE555.out GE557.out GE563.out⟩⟩
            ·rw [if_neg c75] at H
             have c75b0 : (((rd_T35 t538 x12_2).f0) == 4) = false := beq_eq_false_iff_ne.mpr c75
             have c75b1 : (((rd_T35 t538 x12_2).f0) != 4) = true := bne_iff_ne.mpr c75
             have H' := Aside0.mk H
             clear H
             obtain ⟨hnb110, hnc110⟩ := zn2 NB563_545
             obtain ⟨hnb111, hnc111⟩ := zn2 NB563_550
             obtain ⟨hnb112, hnc112⟩ := zn2 NB563_555
             obtain ⟨hnb113, hnc113⟩ := zn2 NB563_557
             obtain ⟨hcz114_0, hfz114_0⟩ := zc1 BK563.out
             obtain ⟨hnb115, hnc115⟩ := zn2 NB557_545
             obtain ⟨hnb116, hnc116⟩ := zn2 NB557_550
             obtain ⟨hnb117, hnc117⟩ := zn2 NB557_555
             obtain ⟨hcz118_0, hfz118_0⟩ := zc1 BK557.out
             try go_wp2
             go_roundg k2
             case measure => have := HJ6.out; have := HK2.out; omega
             case rel => exact ⟨(wrap64 (x12_2 + 1)), (t559), (.slice Ao59 t559.length co59), (by first | rfl | (simp; done) | (simp [*]; done)), H', ⟨by have := HJ6.out; have := HK2.out; omega⟩, ⟨rx (Kd.R_mono (Kd.R_far (p := ⟨gb557, 0, none⟩) (Kd.R_types HO_4.out BK557.out (by decide)) (fun _ hk => hk.2) (.slice Ao59 t559.length co59)) (fun _ hk => trivial))⟩, ⟨rx (Kd.R_mono (Kd.R_far (p := ⟨gb557, 0, none⟩) (Kd.R_types HO_6.out BK557.out (by decide)) (fun _ hk => hk.2) (.slice Ao59 t559.length co59)) (fun _ hk => trivial))⟩, ⟨rx (Kd.R_mono (Kd.R_far (p := ⟨gb557, 0, none⟩) (Kd.R_types HO_546000.out BK557.out (by decide)) (fun _ hk => hk.2) (.slice Ao59 t559.length co59)) (fun _ hk => by refine ⟨?_, ?_⟩ <;> first | exact hk.1.1 | exact hk.1.2.1 | exact hk.1.2.2 | exact hk.1.2.2.1 | exact hk.1.2.2.2))⟩, ⟨rx (Kd.R_mono (Kd.R_far (p := ⟨gb557, 0, none⟩) (Kd.R_types HO_551000.out BK557.out (by decide)) (fun _ hk => hk.2) (.slice Ao59 t559.length co59)) (fun _ hk => ⟨hk.1.1, ⟨hk.1.2.1, hk.1.2.2.2⟩⟩))⟩, ⟨rx (Kd.R_mono (Kd.R_far (p := ⟨gb557, 0, none⟩) (Kd.R_types HO_556000.out BK557.out (by decide)) (fun _ hk => hk.2) (.slice Ao59 t559.length co59)) (fun _ hk => ⟨hk.1.1, ⟨hk.1.2.1, hk.1.2.2.2⟩⟩))⟩, ⟨rx (Kd.R_mono (Kd.R_far (p := ⟨gb557, 0, none⟩) (Kd.R_types HO561.out BK557.out (by decide)) (fun _ hk => hk.2) (.slice Ao59 t559.length co59)) (fun _ hk => by refine ⟨?_, ?_⟩ <;> first | exact hk.1.1 | exact hk.1.2.1 | exact hk.1.2.2 | exact hk.1.2.2.1 | exact hk.1.2.2.2))⟩, ⟨zf1 BK545.out NB545_557.out⟩, ⟨zf1 BK550.out NB550_557.out⟩, ⟨zf1 BK555.out NB555_557.out⟩, ⟨by (with_reducible repeat (first | refine blk_drewN ?_ _ | refine blk_drew ?_ | refine blk_alloc ?_ _)); refine blk_put (cs := #[.slice Ao54 x558000_2.length co54]) ?_ 0 _ rfl; (with_reducible repeat (first | refine blk_drewN ?_ _ | refine blk_drew ?_ | refine blk_alloc ?_ _)); exact BK557.out⟩, ⟨zb5 HB.out GE545.out GE550.out GE555.out GE557.out GE563.out⟩⟩
          ·replace c46 := Bool.eq_false_iff.mpr c46
           subst c46
           have H1 : (some false) = some r := by rw [if_neg (show ¬ (false = true) by decide)] at H; exact H
           clear H
           have H := H1
           clear H1
           exact absurd ((Option.some.inj H).trans HLT.out) (by decide)
         ·rw [if_neg c44] at H
          exact absurd H (by simp)
        ·rw [if_neg c43] at H
         exact absurd H (by simp)
       ·rw [if_neg c42] at H
        have c42b0 : decide (x12_2 < t549) = false := decide_eq_false c42
        have c42b1 : decide (t549 ≤ x12_2) = true := decide_eq_true (by omega)
        clear c42
        replace H := Option.bind_eq_some_iff.mp H
        obtain ⟨⟨t574, t577⟩, A1190, H⟩ := H
        try dsimp only at H
        have A119 := Aside0.mk A1190
        clear A1190
        replace H := Option.bind_eq_some_iff.mp H
        obtain ⟨⟨t579, t582⟩, A1200, H⟩ := H
        try dsimp only at H
        have A120 := Aside0.mk A1200
        clear A1200
        by_cases c121 : (t577 == t582) = true
        ·rw [if_pos c121] at H
         have c121b0 : (t577 == t582) = true := c121
         (try (have c121b1 : decide (t577 = t582) = true := by simpa using c121))
         (try (have c121b2 : (t577 == t582) = true := by simpa using c121))
         clear c121
         replace H := Option.bind_eq_some_iff.mp H
         obtain ⟨t584, A1220, H⟩ := H
         try dsimp only at H
         have A122 := Aside0.mk A1220
         clear A1220
         by_cases c123 : t584 = true
         ·subst c123
          have H1 : (if t549 = 0 then (some true) else ((laws_sameDisk.f k2 x558000_2 t546).bind fun t585 => (some t585))) = some r := by rw [if_pos rfl] at H; exact H
          clear H
          have H := H1
          clear H1
          by_cases c124 : t549 = 0
          ·rw [if_pos c124] at H
           have c124b0 : (t549 == 0) = true := beq_iff_eq.mpr c124
           have c124b1 : (t549 != 0) = false := bne_eq_false_iff_eq.mpr c124
           clear c124
           obtain rfl := Option.some.inj H
           obtain ⟨hnb125, hnc125⟩ := zn2 NB545_550
           obtain ⟨hnb126, hnc126⟩ := zn2 NB545_555
           obtain ⟨hnb127, hnc127⟩ := zn2 NB545_557
           obtain ⟨hcz128_0, hfz128_0⟩ := zc1 BK545.out
           obtain ⟨Ao129, co129, eo129⟩ := Kd.R_slice HO_6.out
           subst eo129
           go_wp2_with (first | ((with_reducible refine gate_callee (f := 26) rfl ?_); refine goesL_ (some 128) rfl rfl Try.func26 (by kernel_rfl) rfl #[.agg #[.slice Ao10 t535.length co10], .slice Ao12 t538.length co12, .int .i64 t541, .slice Ao129 t542.length co129] rfl zr ?_; (with_reducible refine (impl_CutActs.calls k2 _ _ t535 _ _ t538 t541 _ _ t542 t574 t577 _ ?side1 ?side2 ?side3 ?side4 ?side5 ?side6 A119.out).mono ?_); (case side1 => repeat (first | exact (Kd.R_reads' HO_546000.out).2.2 | (with_reducible refine Kd.C_alloc ?_ _) | (with_reducible refine Kd.C_drewN ?_ _) | (with_reducible refine Kd.C_drew ?_))); (case side2 => exact (Kd.R_reads' HO_546000.out).2.1); (case side3 => repeat (first | exact (Kd.R_reads' HO_4.out).2.2 | (with_reducible refine Kd.C_alloc ?_ _) | (with_reducible refine Kd.C_drewN ?_ _) | (with_reducible refine Kd.C_drew ?_))); (case side4 => exact (Kd.R_reads' HO_4.out).2.1); (case side5 => repeat (first | exact (Kd.R_reads' HO_6.out).2.2 | (with_reducible refine Kd.C_alloc ?_ _) | (with_reducible refine Kd.C_drewN ?_ _) | (with_reducible refine Kd.C_drew ?_))); (case side6 => exact (Kd.R_reads' HO_6.out).2.1); rintro e w130 ⟨v575, rfl, ho0, hb⟩; refine ⟨_, rfl, ?_⟩; have HO576 := am (Kd.R_lower (Kd.R_new' (Kd.R_new' (Kd.R_new' (Kd.R_new' ho0 (Kd.R_lt (rx HO_546000.out))) (Kd.R_lt (rx HO_551000.out))) (Kd.R_lt (rx HO_556000.out))) (Kd.R_lt (rx HO_558000.out))) (below_size (zb4 HB.out GE545.out GE550.out GE555.out GE557.out))); replace HO_4 := zo hb HO_4; replace HO_6 := zo hb HO_6; replace HO_546000 := am (Kd.R_elder' (rx HO_546000.out) (Kd.R_base ho0) hb); replace HO_551000 := am (Kd.R_elder' (rx HO_551000.out) (Kd.R_base ho0) hb); replace HO_556000 := am (Kd.R_elder' (rx HO_556000.out) (Kd.R_base ho0) hb); replace HO_558000 := am (Kd.R_elder' (rx HO_558000.out) (Kd.R_base ho0) hb); replace BK545 := zk hb BK545; replace BK550 := zk hb BK550; replace BK555 := zk hb BK555; replace BK557 := zk hb BK557; replace HB := zs4 hb HB GE545 GE550 GE555 GE557; clear hb ho0) | ((with_reducible refine gate_dst (N := 19) rfl ?_); refine box_event rfl (N := 19) rfl (cs := #[.slice none 0 0]) (t := 31) zrun ?_; intro gb578 hg w131 hbox hb; have BK578 := am (hbox); have GW578 := zge hg (zb4 HB.out GE545.out GE550.out GE555.out GE557.out); have GE578 := zge hg (zb4 HB.out GE545.out GE550.out GE555.out GE557.out); obtain ⟨NB545_578, NB578_545⟩ := zne hg BK545; obtain ⟨NB550_578, NB578_550⟩ := zne hg BK550; obtain ⟨NB555_578, NB578_555⟩ := zne hg BK555; obtain ⟨NB557_578, NB578_557⟩ := zne hg BK557; replace HO_4 := zo hb HO_4; replace HO_6 := zo hb HO_6; replace HO_546000 := zo hb HO_546000; replace HO_551000 := zo hb HO_551000; replace HO_556000 := zo hb HO_556000; replace HO_558000 := zo hb HO_558000; replace HO576 := zo hb HO576; replace BK545 := zk hb BK545; replace BK550 := zk hb BK550; replace BK555 := zk hb BK555; replace BK557 := zk hb BK557; replace HB := zs4 hb HB GE545 GE550 GE555 GE557; clear hb hbox hg; obtain ⟨Ao132, co132, eo132⟩ := Kd.R_slice HO576.out; subst eo132; obtain ⟨hnb133, hnc133⟩ := zn2 NB578_545; obtain ⟨hnb134, hnc134⟩ := zn2 NB578_550; obtain ⟨hnb135, hnc135⟩ := zn2 NB578_555; obtain ⟨hnb136, hnc136⟩ := zn2 NB578_557; obtain ⟨hcz137_0, hfz137_0⟩ := zc1 BK578.out; obtain ⟨hcz138_0, hfz138_0⟩ := zc1 BK545.out) | ((with_reducible refine gate_callee (f := 27) rfl ?_); refine goesL_ (some 136) rfl rfl Try.func27 (by kernel_rfl) rfl #[.agg #[.slice Ao10 t535.length co10], .slice Ao12 t538.length co12, .int .i64 t541, .slice Ao129 t542.length co129] rfl zr ?_; (with_reducible refine (spec_CutActs.calls k2 _ _ t535 _ _ t538 t541 _ _ t542 t579 t582 _ ?side1 ?side2 ?side3 ?side4 ?side5 ?side6 A120.out).mono ?_); (case side1 => refine (Kd.R_reads' (e := 66) (base := w.heap.size) (ok := fun k_ => ((some k_ ≠ (.slice Ao15 t546.length co15 : Value).ownBlock ∧ some k_ ≠ (.slice Ao21 t551.length co21 : Value).ownBlock) ∧ some k_ ≠ (.slice Ao132 t574.length co132 : Value).ownBlock)) (n := t535.length) (c := co10) ?_).2.2; exact (rx ((zrf 0 (.slice Ao132 t574.length co132) HO_546000 BK578)))); (case side2 => exact (Kd.R_reads' HO_546000.out).2.1); (case side3 => refine (Kd.R_reads' (e := 35) (base := w.heap.size) (ok := fun k_ => True) (n := t538.length) (c := co12) ?_).2.2; exact (rx ((zrf 0 (.slice Ao132 t574.length co132) HO_4 BK578)))); (case side4 => exact (Kd.R_reads' HO_4.out).2.1); (case side5 => refine (Kd.R_reads' (e := 3) (base := w.heap.size) (ok := fun k_ => True) (n := t542.length) (c := co129) ?_).2.2; exact (rx ((zrf 0 (.slice Ao132 t574.length co132) HO_6 BK578)))); (case side6 => exact (Kd.R_reads' HO_6.out).2.1); rintro e w139 ⟨v580, rfl, ho0, hb⟩; refine ⟨_, rfl, ?_⟩; have HO581 := am (Kd.R_lower (Kd.R_new' (Kd.R_new' (Kd.R_new' (Kd.R_new' (Kd.R_new' ho0 (Kd.R_lt (rx ((zrf 0 (.slice Ao132 t574.length co132) HO_546000 BK578))))) (Kd.R_lt (rx ((zrf 0 (.slice Ao132 t574.length co132) HO_551000 BK578))))) (Kd.R_lt (rx ((zrf 0 (.slice Ao132 t574.length co132) HO_556000 BK578))))) (Kd.R_lt (rx ((zrf 0 (.slice Ao132 t574.length co132) HO_558000 BK578))))) (Kd.R_lt (rx ((zrf 0 (.slice Ao132 t574.length co132) HO576 BK578))))) (below_size (zb5 HB.out GE545.out GE550.out GE555.out GE557.out GE578.out))); replace HO_4 := am (Kd.R_below (rx ((zrf 0 (.slice Ao132 t574.length co132) HO_4 BK578))) hb); replace HO_6 := am (Kd.R_below (rx ((zrf 0 (.slice Ao132 t574.length co132) HO_6 BK578))) hb); replace HO_546000 := am (Kd.R_elder' (rx ((zrf 0 (.slice Ao132 t574.length co132) HO_546000 BK578))) (Kd.R_base ho0) hb); replace HO_551000 := am (Kd.R_elder' (rx ((zrf 0 (.slice Ao132 t574.length co132) HO_551000 BK578))) (Kd.R_base ho0) hb); replace HO_556000 := am (Kd.R_elder' (rx ((zrf 0 (.slice Ao132 t574.length co132) HO_556000 BK578))) (Kd.R_base ho0) hb); replace HO_558000 := am (Kd.R_elder' (rx ((zrf 0 (.slice Ao132 t574.length co132) HO_558000 BK578))) (Kd.R_base ho0) hb); replace HO576 := am (Kd.R_elder' (rx ((zrf 0 (.slice Ao132 t574.length co132) HO576 BK578))) (Kd.R_base ho0) hb); replace BK545 := zh1 hb BK545 NB545_578; replace BK550 := zh1 hb BK550 NB550_578; replace BK555 := zh1 hb BK555 NB555_578; replace BK557 := zh1 hb BK557 NB557_578; replace BK578 := am (blk_below (g := gb578) (o := .cells #[.slice Ao132 t574.length co132] 31 (0, 0)) (zp0 BK578.out) hb); replace HB := zs5 hb HB GE545 GE550 GE555 GE557 GE578; clear hb ho0) | ((with_reducible refine gate_dst (N := 21) rfl ?_); refine box_event rfl (N := 21) rfl (cs := #[.slice none 0 0]) (t := 31) zrun ?_; intro gb583 hg w140 hbox hb; have BK583 := am (hbox); have GW583 := zge hg (zb5 HB.out GE545.out GE550.out GE555.out GE557.out GE578.out); have GE583 := zge hg (zb5 HB.out GE545.out GE550.out GE555.out GE557.out GE578.out); obtain ⟨NB545_583, NB583_545⟩ := zne hg BK545; obtain ⟨NB550_583, NB583_550⟩ := zne hg BK550; obtain ⟨NB555_583, NB583_555⟩ := zne hg BK555; obtain ⟨NB557_583, NB583_557⟩ := zne hg BK557; obtain ⟨NB578_583, NB583_578⟩ := zne hg BK578; replace HO_4 := zo hb HO_4; replace HO_6 := zo hb HO_6; replace HO_546000 := zo hb HO_546000; replace HO_551000 := zo hb HO_551000; replace HO_556000 := zo hb HO_556000; replace HO_558000 := zo hb HO_558000; replace HO576 := zo hb HO576; replace HO581 := zo hb HO581; replace BK545 := zk hb BK545; replace BK550 := zk hb BK550; replace BK555 := zk hb BK555; replace BK557 := zk hb BK557; replace BK578 := zk hb BK578; replace HB := zs5 hb HB GE545 GE550 GE555 GE557 GE578; clear hb hbox hg; obtain ⟨Ao141, co141, eo141⟩ := Kd.R_slice HO581.out; subst eo141; obtain ⟨hnb142, hnc142⟩ := zn2 NB583_545; obtain ⟨hnb143, hnc143⟩ := zn2 NB583_550; obtain ⟨hnb144, hnc144⟩ := zn2 NB583_555; obtain ⟨hnb145, hnc145⟩ := zn2 NB583_557; obtain ⟨hnb146, hnc146⟩ := zn2 NB583_578; obtain ⟨hcz147_0, hfz147_0⟩ := zc1 BK583.out; obtain ⟨hcz148_0, hfz148_0⟩ := zc1 BK578.out) | (go_at_call 24; (with_reducible refine (laws_sameDisk.calls k2 _ _ t574 _ _ t579 true _ ?side1 ?side2 ?side3 ?side4 A122.out).mono ?_); (case side1 => refine (Kd.R_reads' (e := 66) (base := w.heap.size) (ok := fun k_ => (((((True ∧ some k_ ≠ (.slice Ao10 t535.length co10 : Value).ownBlock) ∧ some k_ ≠ (.slice Ao15 t546.length co15 : Value).ownBlock) ∧ some k_ ≠ (.slice Ao21 t551.length co21 : Value).ownBlock) ∧ some k_ ≠ (u558000 : Value).ownBlock) ∧ some k_ ≠ (.slice Ao141 t579.length co141 : Value).ownBlock)) (n := t574.length) (c := co132) ?_).2.2; exact (rx ((zrf 0 (.slice Ao141 t579.length co141) HO576 BK583)))); (case side2 => exact (Kd.R_reads' HO576.out).2.1); (case side3 => refine (Kd.R_reads' (e := 66) (base := w.heap.size) (ok := fun k_ => (((((True ∧ some k_ ≠ (.slice Ao10 t535.length co10 : Value).ownBlock) ∧ some k_ ≠ (.slice Ao15 t546.length co15 : Value).ownBlock) ∧ some k_ ≠ (.slice Ao21 t551.length co21 : Value).ownBlock) ∧ some k_ ≠ (u558000 : Value).ownBlock) ∧ some k_ ≠ (.slice Ao132 t574.length co132 : Value).ownBlock)) (n := t579.length) (c := co141) ?_).2.2; exact (rx ((zrf 0 (.slice Ao141 t579.length co141) HO581 BK583)))); (case side4 => exact (Kd.R_reads' HO581.out).2.1); rintro e w149 ⟨rfl, hb⟩; replace HO_4 := am (Kd.R_below (rx ((zrf 0 (.slice Ao141 t579.length co141) HO_4 BK583))) hb); replace HO_6 := am (Kd.R_below (rx ((zrf 0 (.slice Ao141 t579.length co141) HO_6 BK583))) hb); replace HO_546000 := am (Kd.R_below (rx ((zrf 0 (.slice Ao141 t579.length co141) HO_546000 BK583))) hb); replace HO_551000 := am (Kd.R_below (rx ((zrf 0 (.slice Ao141 t579.length co141) HO_551000 BK583))) hb); replace HO_556000 := am (Kd.R_below (rx ((zrf 0 (.slice Ao141 t579.length co141) HO_556000 BK583))) hb); replace HO_558000 := am (Kd.R_below (rx ((zrf 0 (.slice Ao141 t579.length co141) HO_558000 BK583))) hb); replace HO576 := am (Kd.R_below (rx ((zrf 0 (.slice Ao141 t579.length co141) HO576 BK583))) hb); replace HO581 := am (Kd.R_below (rx ((zrf 0 (.slice Ao141 t579.length co141) HO581 BK583))) hb); replace BK545 := zh1 hb BK545 NB545_583; replace BK550 := zh1 hb BK550 NB550_583; replace BK555 := zh1 hb BK555 NB555_583; replace BK557 := zh1 hb BK557 NB557_583; replace BK578 := zh1 hb BK578 NB578_583; replace BK583 := am (blk_below (g := gb583) (o := .cells #[.slice Ao141 t579.length co141] 31 (0, 0)) (zp0 BK583.out) hb); replace HB := zs6 hb HB GE545 GE550 GE555 GE557 GE578 GE583; clear hb))
           go_ret
           exact ⟨by first | rfl | (simp [errW_none, errW_some] <;> rfl) | (simp [*, errW_none, errW_some] <;> rfl), zb6 HB.out GE545.out GE550.out GE555.out GE557.out GE578.out GE583.out⟩
          ·rw [if_neg c124] at H
           have c124b0 : (t549 == 0) = false := beq_eq_false_iff_ne.mpr c124
           have c124b1 : (t549 != 0) = true := bne_iff_ne.mpr c124
           replace H := Option.bind_eq_some_iff.mp H
           obtain ⟨t585, A1500, H⟩ := H
           try dsimp only at H
           have A150 := Aside0.mk A1500
           clear A1500
           obtain rfl := Option.some.inj H
           obtain ⟨hnb151, hnc151⟩ := zn2 NB545_550
           obtain ⟨hnb152, hnc152⟩ := zn2 NB545_555
           obtain ⟨hnb153, hnc153⟩ := zn2 NB545_557
           obtain ⟨hcz154_0, hfz154_0⟩ := zc1 BK545.out
           obtain ⟨Ao155, co155, eo155⟩ := Kd.R_slice HO_6.out
           subst eo155
           go_wp2_with (first | ((with_reducible refine gate_callee (f := 26) rfl ?_); refine goesL_ (some 128) rfl rfl Try.func26 (by kernel_rfl) rfl #[.agg #[.slice Ao10 t535.length co10], .slice Ao12 t538.length co12, .int .i64 t541, .slice Ao155 t542.length co155] rfl zr ?_; (with_reducible refine (impl_CutActs.calls k2 _ _ t535 _ _ t538 t541 _ _ t542 t574 t577 _ ?side1 ?side2 ?side3 ?side4 ?side5 ?side6 A119.out).mono ?_); (case side1 => repeat (first | exact (Kd.R_reads' HO_546000.out).2.2 | (with_reducible refine Kd.C_alloc ?_ _) | (with_reducible refine Kd.C_drewN ?_ _) | (with_reducible refine Kd.C_drew ?_))); (case side2 => exact (Kd.R_reads' HO_546000.out).2.1); (case side3 => repeat (first | exact (Kd.R_reads' HO_4.out).2.2 | (with_reducible refine Kd.C_alloc ?_ _) | (with_reducible refine Kd.C_drewN ?_ _) | (with_reducible refine Kd.C_drew ?_))); (case side4 => exact (Kd.R_reads' HO_4.out).2.1); (case side5 => repeat (first | exact (Kd.R_reads' HO_6.out).2.2 | (with_reducible refine Kd.C_alloc ?_ _) | (with_reducible refine Kd.C_drewN ?_ _) | (with_reducible refine Kd.C_drew ?_))); (case side6 => exact (Kd.R_reads' HO_6.out).2.1); rintro e w156 ⟨v575, rfl, ho0, hb⟩; refine ⟨_, rfl, ?_⟩; have HO576 := am (Kd.R_lower (Kd.R_new' (Kd.R_new' (Kd.R_new' (Kd.R_new' ho0 (Kd.R_lt (rx HO_546000.out))) (Kd.R_lt (rx HO_551000.out))) (Kd.R_lt (rx HO_556000.out))) (Kd.R_lt (rx HO_558000.out))) (below_size (zb4 HB.out GE545.out GE550.out GE555.out GE557.out))); replace HO_4 := zo hb HO_4; replace HO_6 := zo hb HO_6; replace HO_546000 := am (Kd.R_elder' (rx HO_546000.out) (Kd.R_base ho0) hb); replace HO_551000 := am (Kd.R_elder' (rx HO_551000.out) (Kd.R_base ho0) hb); replace HO_556000 := am (Kd.R_elder' (rx HO_556000.out) (Kd.R_base ho0) hb); replace HO_558000 := am (Kd.R_elder' (rx HO_558000.out) (Kd.R_base ho0) hb); replace BK545 := zk hb BK545; replace BK550 := zk hb BK550; replace BK555 := zk hb BK555; replace BK557 := zk hb BK557; replace HB := zs4 hb HB GE545 GE550 GE555 GE557; clear hb ho0) | ((with_reducible refine gate_dst (N := 19) rfl ?_); refine box_event rfl (N := 19) rfl (cs := #[.slice none 0 0]) (t := 31) zrun ?_; intro gb578 hg w157 hbox hb; have BK578 := am (hbox); have GW578 := zge hg (zb4 HB.out GE545.out GE550.out GE555.out GE557.out); have GE578 := zge hg (zb4 HB.out GE545.out GE550.out GE555.out GE557.out); obtain ⟨NB545_578, NB578_545⟩ := zne hg BK545; obtain ⟨NB550_578, NB578_550⟩ := zne hg BK550; obtain ⟨NB555_578, NB578_555⟩ := zne hg BK555; obtain ⟨NB557_578, NB578_557⟩ := zne hg BK557; replace HO_4 := zo hb HO_4; replace HO_6 := zo hb HO_6; replace HO_546000 := zo hb HO_546000; replace HO_551000 := zo hb HO_551000; replace HO_556000 := zo hb HO_556000; replace HO_558000 := zo hb HO_558000; replace HO576 := zo hb HO576; replace BK545 := zk hb BK545; replace BK550 := zk hb BK550; replace BK555 := zk hb BK555; replace BK557 := zk hb BK557; replace HB := zs4 hb HB GE545 GE550 GE555 GE557; clear hb hbox hg; obtain ⟨Ao158, co158, eo158⟩ := Kd.R_slice HO576.out; subst eo158; obtain ⟨hnb159, hnc159⟩ := zn2 NB578_545; obtain ⟨hnb160, hnc160⟩ := zn2 NB578_550; obtain ⟨hnb161, hnc161⟩ := zn2 NB578_555; obtain ⟨hnb162, hnc162⟩ := zn2 NB578_557; obtain ⟨hcz163_0, hfz163_0⟩ := zc1 BK578.out; obtain ⟨hcz164_0, hfz164_0⟩ := zc1 BK545.out) | ((with_reducible refine gate_callee (f := 27) rfl ?_); refine goesL_ (some 136) rfl rfl Try.func27 (by kernel_rfl) rfl #[.agg #[.slice Ao10 t535.length co10], .slice Ao12 t538.length co12, .int .i64 t541, .slice Ao155 t542.length co155] rfl zr ?_; (with_reducible refine (spec_CutActs.calls k2 _ _ t535 _ _ t538 t541 _ _ t542 t579 t582 _ ?side1 ?side2 ?side3 ?side4 ?side5 ?side6 A120.out).mono ?_); (case side1 => refine (Kd.R_reads' (e := 66) (base := w.heap.size) (ok := fun k_ => ((some k_ ≠ (.slice Ao15 t546.length co15 : Value).ownBlock ∧ some k_ ≠ (.slice Ao21 t551.length co21 : Value).ownBlock) ∧ some k_ ≠ (.slice Ao158 t574.length co158 : Value).ownBlock)) (n := t535.length) (c := co10) ?_).2.2; exact (rx ((zrf 0 (.slice Ao158 t574.length co158) HO_546000 BK578)))); (case side2 => exact (Kd.R_reads' HO_546000.out).2.1); (case side3 => refine (Kd.R_reads' (e := 35) (base := w.heap.size) (ok := fun k_ => True) (n := t538.length) (c := co12) ?_).2.2; exact (rx ((zrf 0 (.slice Ao158 t574.length co158) HO_4 BK578)))); (case side4 => exact (Kd.R_reads' HO_4.out).2.1); (case side5 => refine (Kd.R_reads' (e := 3) (base := w.heap.size) (ok := fun k_ => True) (n := t542.length) (c := co155) ?_).2.2; exact (rx ((zrf 0 (.slice Ao158 t574.length co158) HO_6 BK578)))); (case side6 => exact (Kd.R_reads' HO_6.out).2.1); rintro e w165 ⟨v580, rfl, ho0, hb⟩; refine ⟨_, rfl, ?_⟩; have HO581 := am (Kd.R_lower (Kd.R_new' (Kd.R_new' (Kd.R_new' (Kd.R_new' (Kd.R_new' ho0 (Kd.R_lt (rx ((zrf 0 (.slice Ao158 t574.length co158) HO_546000 BK578))))) (Kd.R_lt (rx ((zrf 0 (.slice Ao158 t574.length co158) HO_551000 BK578))))) (Kd.R_lt (rx ((zrf 0 (.slice Ao158 t574.length co158) HO_556000 BK578))))) (Kd.R_lt (rx ((zrf 0 (.slice Ao158 t574.length co158) HO_558000 BK578))))) (Kd.R_lt (rx ((zrf 0 (.slice Ao158 t574.length co158) HO576 BK578))))) (below_size (zb5 HB.out GE545.out GE550.out GE555.out GE557.out GE578.out))); replace HO_4 := am (Kd.R_below (rx ((zrf 0 (.slice Ao158 t574.length co158) HO_4 BK578))) hb); replace HO_6 := am (Kd.R_below (rx ((zrf 0 (.slice Ao158 t574.length co158) HO_6 BK578))) hb); replace HO_546000 := am (Kd.R_elder' (rx ((zrf 0 (.slice Ao158 t574.length co158) HO_546000 BK578))) (Kd.R_base ho0) hb); replace HO_551000 := am (Kd.R_elder' (rx ((zrf 0 (.slice Ao158 t574.length co158) HO_551000 BK578))) (Kd.R_base ho0) hb); replace HO_556000 := am (Kd.R_elder' (rx ((zrf 0 (.slice Ao158 t574.length co158) HO_556000 BK578))) (Kd.R_base ho0) hb); replace HO_558000 := am (Kd.R_elder' (rx ((zrf 0 (.slice Ao158 t574.length co158) HO_558000 BK578))) (Kd.R_base ho0) hb); replace HO576 := am (Kd.R_elder' (rx ((zrf 0 (.slice Ao158 t574.length co158) HO576 BK578))) (Kd.R_base ho0) hb); replace BK545 := zh1 hb BK545 NB545_578; replace BK550 := zh1 hb BK550 NB550_578; replace BK555 := zh1 hb BK555 NB555_578; replace BK557 := zh1 hb BK557 NB557_578; replace BK578 := am (blk_below (g := gb578) (o := .cells #[.slice Ao158 t574.length co158] 31 (0, 0)) (zp0 BK578.out) hb); replace HB := zs5 hb HB GE545 GE550 GE555 GE557 GE578; clear hb ho0) | ((with_reducible refine gate_dst (N := 21) rfl ?_); refine box_event rfl (N := 21) rfl (cs := #[.slice none 0 0]) (t := 31) zrun ?_; intro gb583 hg w166 hbox hb; have BK583 := am (hbox); have GW583 := zge hg (zb5 HB.out GE545.out GE550.out GE555.out GE557.out GE578.out); have GE583 := zge hg (zb5 HB.out GE545.out GE550.out GE555.out GE557.out GE578.out); obtain ⟨NB545_583, NB583_545⟩ := zne hg BK545; obtain ⟨NB550_583, NB583_550⟩ := zne hg BK550; obtain ⟨NB555_583, NB583_555⟩ := zne hg BK555; obtain ⟨NB557_583, NB583_557⟩ := zne hg BK557; obtain ⟨NB578_583, NB583_578⟩ := zne hg BK578; replace HO_4 := zo hb HO_4; replace HO_6 := zo hb HO_6; replace HO_546000 := zo hb HO_546000; replace HO_551000 := zo hb HO_551000; replace HO_556000 := zo hb HO_556000; replace HO_558000 := zo hb HO_558000; replace HO576 := zo hb HO576; replace HO581 := zo hb HO581; replace BK545 := zk hb BK545; replace BK550 := zk hb BK550; replace BK555 := zk hb BK555; replace BK557 := zk hb BK557; replace BK578 := zk hb BK578; replace HB := zs5 hb HB GE545 GE550 GE555 GE557 GE578; clear hb hbox hg; obtain ⟨Ao167, co167, eo167⟩ := Kd.R_slice HO581.out; subst eo167; obtain ⟨hnb168, hnc168⟩ := zn2 NB583_545; obtain ⟨hnb169, hnc169⟩ := zn2 NB583_550; obtain ⟨hnb170, hnc170⟩ := zn2 NB583_555; obtain ⟨hnb171, hnc171⟩ := zn2 NB583_557; obtain ⟨hnb172, hnc172⟩ := zn2 NB583_578; obtain ⟨hcz173_0, hfz173_0⟩ := zc1 BK583.out; obtain ⟨hcz174_0, hfz174_0⟩ := zc1 BK578.out) | (go_at_call 24; (with_reducible refine (laws_sameDisk.calls k2 _ _ t574 _ _ t579 true _ ?side1 ?side2 ?side3 ?side4 A122.out).mono ?_); (case side1 => refine (Kd.R_reads' (e := 66) (base := w.heap.size) (ok := fun k_ => (((((True ∧ some k_ ≠ (.slice Ao10 t535.length co10 : Value).ownBlock) ∧ some k_ ≠ (.slice Ao15 t546.length co15 : Value).ownBlock) ∧ some k_ ≠ (.slice Ao21 t551.length co21 : Value).ownBlock) ∧ some k_ ≠ (u558000 : Value).ownBlock) ∧ some k_ ≠ (.slice Ao167 t579.length co167 : Value).ownBlock)) (n := t574.length) (c := co158) ?_).2.2; exact (rx ((zrf 0 (.slice Ao167 t579.length co167) HO576 BK583)))); (case side2 => exact (Kd.R_reads' HO576.out).2.1); (case side3 => refine (Kd.R_reads' (e := 66) (base := w.heap.size) (ok := fun k_ => (((((True ∧ some k_ ≠ (.slice Ao10 t535.length co10 : Value).ownBlock) ∧ some k_ ≠ (.slice Ao15 t546.length co15 : Value).ownBlock) ∧ some k_ ≠ (.slice Ao21 t551.length co21 : Value).ownBlock) ∧ some k_ ≠ (u558000 : Value).ownBlock) ∧ some k_ ≠ (.slice Ao158 t574.length co158 : Value).ownBlock)) (n := t579.length) (c := co167) ?_).2.2; exact (rx ((zrf 0 (.slice Ao167 t579.length co167) HO581 BK583)))); (case side4 => exact (Kd.R_reads' HO581.out).2.1); rintro e w175 ⟨rfl, hb⟩; replace HO_4 := am (Kd.R_below (rx ((zrf 0 (.slice Ao167 t579.length co167) HO_4 BK583))) hb); replace HO_6 := am (Kd.R_below (rx ((zrf 0 (.slice Ao167 t579.length co167) HO_6 BK583))) hb); replace HO_546000 := am (Kd.R_below (rx ((zrf 0 (.slice Ao167 t579.length co167) HO_546000 BK583))) hb); replace HO_551000 := am (Kd.R_below (rx ((zrf 0 (.slice Ao167 t579.length co167) HO_551000 BK583))) hb); replace HO_556000 := am (Kd.R_below (rx ((zrf 0 (.slice Ao167 t579.length co167) HO_556000 BK583))) hb); replace HO_558000 := am (Kd.R_below (rx ((zrf 0 (.slice Ao167 t579.length co167) HO_558000 BK583))) hb); replace HO576 := am (Kd.R_below (rx ((zrf 0 (.slice Ao167 t579.length co167) HO576 BK583))) hb); replace HO581 := am (Kd.R_below (rx ((zrf 0 (.slice Ao167 t579.length co167) HO581 BK583))) hb); replace BK545 := zh1 hb BK545 NB545_583; replace BK550 := zh1 hb BK550 NB550_583; replace BK555 := zh1 hb BK555 NB555_583; replace BK557 := zh1 hb BK557 NB557_583; replace BK578 := zh1 hb BK578 NB578_583; replace BK583 := am (blk_below (g := gb583) (o := .cells #[.slice Ao167 t579.length co167] 31 (0, 0)) (zp0 BK583.out) hb); replace HB := zs6 hb HB GE545 GE550 GE555 GE557 GE578 GE583; clear hb; obtain ⟨hnb176, hnc176⟩ := zn2 NB557_550; obtain ⟨hnb177, hnc177⟩ := zn2 NB557_555; obtain ⟨hcz178_0, hfz178_0⟩ := zc1 BK557.out; obtain ⟨hnb179, hnc179⟩ := zn2 NB550_555; obtain ⟨hcz180_0, hfz180_0⟩ := zc1 BK550.out; obtain ⟨Ao181, co181, eo181⟩ := Kd.R_slice HO_558000.out; subst eo181) | (go_at_call 24; (with_reducible refine (laws_sameDisk.calls k2 _ _ x558000_2 _ _ t546 t585 _ ?side1 ?side2 ?side3 ?side4 A150.out).mono ?_); (case side1 => repeat (first | exact (Kd.R_reads' HO_558000.out).2.2 | (with_reducible refine Kd.C_alloc ?_ _) | (with_reducible refine Kd.C_drewN ?_ _) | (with_reducible refine Kd.C_drew ?_))); (case side2 => exact (Kd.R_reads' HO_558000.out).2.1); (case side3 => repeat (first | exact (Kd.R_reads' HO_551000.out).2.2 | (with_reducible refine Kd.C_alloc ?_ _) | (with_reducible refine Kd.C_drewN ?_ _) | (with_reducible refine Kd.C_drew ?_))); (case side4 => exact (Kd.R_reads' HO_551000.out).2.1); rintro e w182 ⟨rfl, hb⟩; replace HO_4 := zo hb HO_4; replace HO_6 := zo hb HO_6; replace HO_546000 := zo hb HO_546000; replace HO_551000 := zo hb HO_551000; replace HO_556000 := zo hb HO_556000; replace HO_558000 := zo hb HO_558000; replace HO576 := zo hb HO576; replace HO581 := zo hb HO581; replace BK545 := zk hb BK545; replace BK550 := zk hb BK550; replace BK555 := zk hb BK555; replace BK557 := zk hb BK557; replace BK578 := zk hb BK578; replace BK583 := zk hb BK583; replace HB := zs6 hb HB GE545 GE550 GE555 GE557 GE578 GE583; clear hb))
           go_ret
           exact ⟨by first | rfl | (simp [errW_none, errW_some] <;> rfl) | (simp [*, errW_none, errW_some] <;> rfl), zb6 HB.out GE545.out GE550.out GE555.out GE557.out GE578.out GE583.out⟩
         ·replace c123 := Bool.eq_false_iff.mpr c123
          subst c123
          have H1 : (some false) = some r := by rw [if_neg (show ¬ (false = true) by decide)] at H; exact H
          clear H
          have H := H1
          clear H1
          exact absurd ((Option.some.inj H).trans HLT.out) (by decide)
        ·rw [if_neg c121] at H
         have c121b0 : (t577 == t582) = false := by simpa using c121
         (try (have c121b1 : decide (t577 = t582) = false := by simpa using c121))
         (try (have c121b2 : (t577 == t582) = false := by simpa using c121))
         (try (have c121b3 : ¬ (t577 = t582) := by simpa using c121))
         clear c121
         exact absurd ((Option.some.inj H).trans HLT.out) (by decide)

/-- THE ONE PURE STATEMENT of laws_FnActs: yours. -/
def laws_FnActs.Pure : Prop := ∀ (l0 : List Int), l0.length ≤ maxLen → l0.length * 1 ≤ 140737488351232 → (∀ x ∈ l0, (Lit.int .u8 x).wf = true) → ∃ k, laws_FnActs.f k l0 = some true
theorem laws_FnActs.walk (P : laws_FnActs.Pure) (a0 : Option Addr) (len0 cap0 : Nat) (z0 : List Int) (w : World) (w0 : (a0 = none ∧ len0 = 0 ∧ cap0 = 0 ∧ z0 = []) ∨ ∃ x, a0 = some x ∧ len0 ≤ cap0 ∧ cap0 ≤ maxLen ∧ z0.length = cap0 ∧ (∀ i, i < z0.length → w.cell? (x.add i) = some (.int .u8 (z0.getD i 0))) ∧ ∀ n ∈ z0, (Lit.int .u8 n).wf = true) (y0 : len0 * 1 ≤ 140737488351232) :
  Calls Try.prog 5 #[.slice a0 len0 cap0] w fun e w' => e = .returned (.bool true) ∧ Below w.heap.size w w' := by
 obtain ⟨l0, rfl, hr0, hm0, hw0, hc0⟩ := ReadsInt.ofRowC w0
 obtain ⟨k, h⟩ := P l0 hm0 y0 hw0
 refine (laws_FnActs.calls k _ _ l0 true w (Kd.C_of_reads (d := (0 : Int)) (h1 := fun _ => rfl) hr0) hc0 h).mono ?_
 rintro e w' ⟨rfl, hd⟩
 exact ⟨rfl, hd⟩

end Go.Proofs.Ytklbkkoojkmjbaa.QFnActs
