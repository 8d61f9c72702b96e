/- Written by the kit's print.py, called by our own print2.sh with one import more; not by print.sh. -/
import Derived.Test.YtklbkkoojkmjbaaQFnExactDoActsx0
import Derived.Test.YtklbkkoojkmjbaaQFnExactDoActsx1
import Derived.Test.YtklbkkoojkmjbaaQFnExactDoActsx2
import Derived.Test.YtklbkkoojkmjbaaQFnExactDoActsx3
import Derived.Test.YtklbkkoojkmjbaaQFnExactDoActsx4
import Derived.Test.YtklbkkoojkmjbaaQFnExactDoActsx8
import Derived.Test.YtklbkkoojkmjbaaQFnExactDoActsx9
import Derived.Test.YtklbkkoojkmjbaaQFnExactDoActsx13
namespace Go.Proofs.Ytklbkkoojkmjbaa.QFnExactDoActs
open Go.RowKit Go.Proofs.YtklbkkoojkmjbaaW.PrintWords Go.Proofs.YtklbkkoojkmjbaaW.PrintLast Go.Proofs.YtklbkkoojkmjbaaW.PrintMore
attribute [local go_sem] max2_int min2_int max_two min_two max_three min_three max_four min_four   -- for this text's walks alone
open Go.Proofs.Ytklbkkoojkmjbaa.Short
set_option linter.unusedVariables false
set_option linter.unusedSimpArgs false

/-! ### laws_FnExactDoActs: function 4 -/
mutual
def laws_FnExactDoActs.j0 : Nat → List (S26) → Int → List (S35) → Int → Bool → List (S85) → List (S66) → List (S66) → List (S66) → Option (Bool)
 | 0, _, _, _, _, _, _, _, _, _ => none
 | k + 1, x1, x7, x9, x11, x53, x315000, x328000, x332000, x340000 => if x53 = true then (some false) else ((laws_toDisk.f k x315000).bind fun t341 => ((laws_eqDisk.f k x332000 t341).bind fun t344 => (if t344 = true then ((laws_toActS.f k x1).bind fun t345 => ((laws_eqActS.f k x9 t345).bind fun t348 => (if t348 = true then ((laws_markDisk.f k x332000 1).bind fun bt349 => ((laws_markActS.f k x9 bt349.1).bind fun bt351 => (if bt351.1 < 0 then (laws_FnExactDoActs.j1 k x1 x7 true x315000 x328000 x340000) else ((laws_eqDisk.f k x340000 x328000).bind fun t353 => (if t353 = true then (laws_FnExactDoActs.j1 k x1 x7 (x11 != x7) x315000 x328000 x340000) else (laws_FnExactDoActs.j1 k x1 x7 true x315000 x328000 x340000)))))) else (some false)))) else (some false))))
def laws_FnExactDoActs.j1 : Nat → List (S26) → Int → Bool → List (S85) → List (S66) → List (S66) → Option (Bool)
 | 0, _, _, _, _, _, _ => none
 | k + 1, x1, x7, x82, x315000, x328000, x340000 => if x82 = true then (some false) else ((laws_markDisk.f k x340000 1).bind fun bt354 => ((laws_heldDisk.f k bt354.2 1).bind fun t356 => (if t356 < 0 then (some false) else (if t356 = bt354.1 then ((laws_toDisk.f k x315000).bind fun t357 => ((laws_toActS.f k x1).bind fun t360 => ((impl_DoActs.f k t357 t360).bind fun bt363 => ((laws_eqDisk.f k bt363.1 x328000).bind fun t368 => (if t368 = true then (laws_FnExactDoActs.j2 k bt354.1 (bt363.2 != x7) bt354.2) else (laws_FnExactDoActs.j2 k bt354.1 true bt354.2)))))) else (some false)))))
def laws_FnExactDoActs.j2 : Nat → Int → Bool → List (S66) → Option (Bool)
 | 0, _, _, _ => none
 | k + 1, x13, x110, x340000 => if x110 = true then (some false) else ((laws_heldDisk.f k x340000 1).bind fun t369 => (if t369 < 0 then (some false) else (if t369 = x13 then (some true) else (some false))))
end
def laws_FnExactDoActs.f (k : Nat) (l0_0 : List (S85)) (l1 : List (S26)) : Option (Bool) := (laws_szDisk.f k l0_0 1048576).bind fun t315 => (if t315 < 0 then (some true) else ((laws_szActS.f k l1 t315).bind fun t316 => (if t316 < 0 then (some true) else ((laws_toDisk.f k l0_0).bind fun t317 => ((laws_toActS.f k l1).bind fun t320 => ((spec_DoActs.f k t317 t320).bind fun bt323 => ((laws_toDisk.f k l0_0).bind fun t328 => ((laws_toActS.f k l1).bind fun t332 => ((impl_DoActs.f k t328 t332).bind fun bt335 => ((laws_eqDisk.f k bt335.1 bt323.1).bind fun t340 => (if t340 = true then (laws_FnExactDoActs.j0 k l1 bt323.2 t332 bt335.2 (bt335.2 != bt323.2) l0_0 bt323.1 t328 bt335.1) else (laws_FnExactDoActs.j0 k l1 bt323.2 t332 bt335.2 true l0_0 bt323.1 t328 bt335.1))))))))))))
theorem laws_FnExactDoActs.mono_l : ∀ k, (∀ y0 y1 y2 y3 y4 y5 y6 y7 y8, LeO (laws_FnExactDoActs.j0 k y0 y1 y2 y3 y4 y5 y6 y7 y8) (laws_FnExactDoActs.j0 (k + 1) y0 y1 y2 y3 y4 y5 y6 y7 y8)) ∧ (∀ y0 y1 y2 y3 y4 y5, LeO (laws_FnExactDoActs.j1 k y0 y1 y2 y3 y4 y5) (laws_FnExactDoActs.j1 (k + 1) y0 y1 y2 y3 y4 y5)) ∧ (∀ y0 y1 y2, LeO (laws_FnExactDoActs.j2 k y0 y1 y2) (laws_FnExactDoActs.j2 (k + 1) y0 y1 y2))
 | 0 => ⟨fun _ _ _ _ _ _ _ _ _ r h => by simp [laws_FnExactDoActs.j0] at h, fun _ _ _ _ _ _ r h => by simp [laws_FnExactDoActs.j1] at h, fun _ _ _ r h => by simp [laws_FnExactDoActs.j2] at h⟩
 | k + 1 => by
  obtain ⟨ih0, ih1, ih2⟩ := laws_FnExactDoActs.mono_l k
  refine ⟨?_, ?_, ?_⟩
  ·intro y0 y1 y2 y3 y4 y5 y6 y7 y8
   unfold laws_FnExactDoActs.j0
   repeat' first
   | (with_reducible exact ih0 _ _ _ _ _ _ _ _ _)
   | (with_reducible exact ih1 _ _ _ _ _ _)
   | (with_reducible exact ih2 _ _ _)
   | (with_reducible exact impl_DoActs.mono _ _ _)
   | (with_reducible exact laws_eqActS.mono _ _ _)
   | (with_reducible exact laws_eqDisk.mono _ _ _)
   | (with_reducible exact laws_heldDisk.mono _ _ _)
   | (with_reducible exact laws_markActS.mono _ _ _)
   | (with_reducible exact laws_markDisk.mono _ _ _)
   | (with_reducible exact laws_szActS.mono _ _ _)
   | (with_reducible exact laws_szDisk.mono _ _ _)
   | (with_reducible exact laws_toActS.mono _ _)
   | (with_reducible exact laws_toDisk.mono _ _)
   | (with_reducible exact spec_DoActs.mono _ _ _)
   | (with_reducible exact LeO.refl _)
   | (with_reducible exact LeO.none _)
   | (with_reducible refine LeO.ite ?_ ?_)
   | (with_reducible refine LeO.bind ?_ (fun _ => ?_))
   | exact ih0 _ _ _ _ _ _ _ _ _
   | exact ih1 _ _ _ _ _ _
   | exact ih2 _ _ _
   | exact impl_DoActs.mono _ _ _
   | exact laws_eqActS.mono _ _ _
   | exact laws_eqDisk.mono _ _ _
   | exact laws_heldDisk.mono _ _ _
   | exact laws_markActS.mono _ _ _
   | exact laws_markDisk.mono _ _ _
   | exact laws_szActS.mono _ _ _
   | exact laws_szDisk.mono _ _ _
   | exact laws_toActS.mono _ _
   | exact laws_toDisk.mono _ _
   | exact spec_DoActs.mono _ _ _
   | exact LeO.none _
   | refine LeO.ite ?_ ?_
   | refine LeO.bind ?_ (fun _ => ?_)
  ·intro y0 y1 y2 y3 y4 y5
   unfold laws_FnExactDoActs.j1
   repeat' first
   | (with_reducible exact ih0 _ _ _ _ _ _ _ _ _)
   | (with_reducible exact ih1 _ _ _ _ _ _)
   | (with_reducible exact ih2 _ _ _)
   | (with_reducible exact impl_DoActs.mono _ _ _)
   | (with_reducible exact laws_eqActS.mono _ _ _)
   | (with_reducible exact laws_eqDisk.mono _ _ _)
   | (with_reducible exact laws_heldDisk.mono _ _ _)
   | (with_reducible exact laws_markActS.mono _ _ _)
   | (with_reducible exact laws_markDisk.mono _ _ _)
   | (with_reducible exact laws_szActS.mono _ _ _)
   | (with_reducible exact laws_szDisk.mono _ _ _)
   | (with_reducible exact laws_toActS.mono _ _)
   | (with_reducible exact laws_toDisk.mono _ _)
   | (with_reducible exact spec_DoActs.mono _ _ _)
   | (with_reducible exact LeO.refl _)
   | (with_reducible exact LeO.none _)
   | (with_reducible refine LeO.ite ?_ ?_)
   | (with_reducible refine LeO.bind ?_ (fun _ => ?_))
   | exact ih0 _ _ _ _ _ _ _ _ _
   | exact ih1 _ _ _ _ _ _
   | exact ih2 _ _ _
   | exact impl_DoActs.mono _ _ _
   | exact laws_eqActS.mono _ _ _
   | exact laws_eqDisk.mono _ _ _
   | exact laws_heldDisk.mono _ _ _
   | exact laws_markActS.mono _ _ _
   | exact laws_markDisk.mono _ _ _
   | exact laws_szActS.mono _ _ _
   | exact laws_szDisk.mono _ _ _
   | exact laws_toActS.mono _ _
   | exact laws_toDisk.mono _ _
   | exact spec_DoActs.mono _ _ _
   | exact LeO.none _
   | refine LeO.ite ?_ ?_
   | refine LeO.bind ?_ (fun _ => ?_)
  ·intro y0 y1 y2
   unfold laws_FnExactDoActs.j2
   repeat' first
   | (with_reducible exact ih0 _ _ _ _ _ _ _ _ _)
   | (with_reducible exact ih1 _ _ _ _ _ _)
   | (with_reducible exact ih2 _ _ _)
   | (with_reducible exact impl_DoActs.mono _ _ _)
   | (with_reducible exact laws_eqActS.mono _ _ _)
   | (with_reducible exact laws_eqDisk.mono _ _ _)
   | (with_reducible exact laws_heldDisk.mono _ _ _)
   | (with_reducible exact laws_markActS.mono _ _ _)
   | (with_reducible exact laws_markDisk.mono _ _ _)
   | (with_reducible exact laws_szActS.mono _ _ _)
   | (with_reducible exact laws_szDisk.mono _ _ _)
   | (with_reducible exact laws_toActS.mono _ _)
   | (with_reducible exact laws_toDisk.mono _ _)
   | (with_reducible exact spec_DoActs.mono _ _ _)
   | (with_reducible exact LeO.refl _)
   | (with_reducible exact LeO.none _)
   | (with_reducible refine LeO.ite ?_ ?_)
   | (with_reducible refine LeO.bind ?_ (fun _ => ?_))
   | exact ih0 _ _ _ _ _ _ _ _ _
   | exact ih1 _ _ _ _ _ _
   | exact ih2 _ _ _
   | exact impl_DoActs.mono _ _ _
   | exact laws_eqActS.mono _ _ _
   | exact laws_eqDisk.mono _ _ _
   | exact laws_heldDisk.mono _ _ _
   | exact laws_markActS.mono _ _ _
   | exact laws_markDisk.mono _ _ _
   | exact laws_szActS.mono _ _ _
   | exact laws_szDisk.mono _ _ _
   | exact laws_toActS.mono _ _
   | exact laws_toDisk.mono _ _
   | exact spec_DoActs.mono _ _ _
   | exact LeO.none _
   | refine LeO.ite ?_ ?_
   | refine LeO.bind ?_ (fun _ => ?_)
theorem laws_FnExactDoActs.mono : ∀ a0 a1 k, LeO (laws_FnExactDoActs.f k a0 a1) (laws_FnExactDoActs.f (k + 1) a0 a1) := by
 intro a0 a1 k
 obtain ⟨ih0, ih1, ih2⟩ := laws_FnExactDoActs.mono_l k
 unfold laws_FnExactDoActs.f
 repeat' first
   | (with_reducible exact ih0 _ _ _ _ _ _ _ _ _)
   | (with_reducible exact ih1 _ _ _ _ _ _)
   | (with_reducible exact ih2 _ _ _)
   | (with_reducible exact impl_DoActs.mono _ _ _)
   | (with_reducible exact laws_eqActS.mono _ _ _)
   | (with_reducible exact laws_eqDisk.mono _ _ _)
   | (with_reducible exact laws_heldDisk.mono _ _ _)
   | (with_reducible exact laws_markActS.mono _ _ _)
   | (with_reducible exact laws_markDisk.mono _ _ _)
   | (with_reducible exact laws_szActS.mono _ _ _)
   | (with_reducible exact laws_szDisk.mono _ _ _)
   | (with_reducible exact laws_toActS.mono _ _)
   | (with_reducible exact laws_toDisk.mono _ _)
   | (with_reducible exact spec_DoActs.mono _ _ _)
   | (with_reducible exact LeO.refl _)
   | (with_reducible exact LeO.none _)
   | (with_reducible refine LeO.ite ?_ ?_)
   | (with_reducible refine LeO.bind ?_ (fun _ => ?_))
   | exact ih0 _ _ _ _ _ _ _ _ _
   | exact ih1 _ _ _ _ _ _
   | exact ih2 _ _ _
   | exact impl_DoActs.mono _ _ _
   | exact laws_eqActS.mono _ _ _
   | exact laws_eqDisk.mono _ _ _
   | exact laws_heldDisk.mono _ _ _
   | exact laws_markActS.mono _ _ _
   | exact laws_markDisk.mono _ _ _
   | exact laws_szActS.mono _ _ _
   | exact laws_szDisk.mono _ _ _
   | exact laws_toActS.mono _ _
   | exact laws_toDisk.mono _ _
   | exact spec_DoActs.mono _ _ _
   | exact LeO.none _
   | refine LeO.ite ?_ ?_
   | refine LeO.bind ?_ (fun _ => ?_)
set_option maxHeartbeats 8000000 in
set_option maxRecDepth 100000 in
theorem laws_FnExactDoActs.calls (k : Nat) (A0_0 : Option Addr) (c0_0 : Nat) (l0_0 : List (S85)) (A1 : Option Addr) (c1 : Nat) (l1 : List (S26)) (r : Bool) (w : World) (hr0_0 : Kd.C k85 w A0_0 l0_0.length l0_0) (hc0_0 : l0_0.length ≤ c0_0) (hr1 : Kd.C k26 w A1 l1.length l1) (hc1 : l1.length ≤ c1) (h : laws_FnExactDoActs.f k l0_0 l1 = some r) (hrt : r = true := by rfl) :
  Calls Try.prog 4 #[.agg #[.slice A0_0 l0_0.length c0_0], .slice A1 l1.length c1] w fun e w' => e = .returned (.bool r) ∧ Below w.heap.size w w' := by
 have hu24 := Try.underlying24
 have hu31 := Try.underlying31
 have HR0_0 := Aside0.mk hr0_0
 have HC0_0 := Aside0.mk hc0_0
 clear hr0_0 hc0_0
 have HR1 := Aside0.mk hr1
 have HC1 := Aside0.mk hc1
 clear hr1 hc1
 have HB := Aside0.mk (Below.refl w.heap.size w)
 have HLT := Aside0.mk hrt
 clear hrt
 have H : ((laws_szDisk.f k l0_0 1048576).bind fun t315 => (if t315 < 0 then (some true) else ((laws_szActS.f k l1 t315).bind fun t316 => (if t316 < 0 then (some true) else ((laws_toDisk.f k l0_0).bind fun t317 => ((laws_toActS.f k l1).bind fun t320 => ((spec_DoActs.f k t317 t320).bind fun bt323 => ((laws_toDisk.f k l0_0).bind fun t328 => ((laws_toActS.f k l1).bind fun t332 => ((impl_DoActs.f k t328 t332).bind fun bt335 => ((laws_eqDisk.f k bt335.1 bt323.1).bind fun t340 => (if t340 = true then (laws_FnExactDoActs.j0 k l1 bt323.2 t332 bt335.2 (bt335.2 != bt323.2) l0_0 bt323.1 t328 bt335.1) else (laws_FnExactDoActs.j0 k l1 bt323.2 t332 bt335.2 true l0_0 bt323.1 t328 bt335.1))))))))))))) = some r := h
 clear h
 replace H := Option.bind_eq_some_iff.mp H
 obtain ⟨t315, A30, H⟩ := H
 try dsimp only at H
 have A3 := Aside0.mk A30
 clear A30
 by_cases c4 : t315 < 0
 ·rw [if_pos c4] at H
  have c4b0 : decide (t315 < 0) = true := decide_eq_true c4
  clear c4
  obtain rfl := Option.some.inj H
  go_enter Try.func4, Try.ntmps4
  go_wp2_with (first | ((with_reducible refine gate_dst (N := 2) rfl ?_); refine box_event ?hg (N := 2) ?hd (cs := #[.slice A0_0 l0_0.length c0_0]) (t := 24) ?hr ?_; (case hd => rfl); (case hg => rfl); (case hr => first | (go_simp; done) | (go_simp; rfl)); intro gb314 hg w5 hbox hb; have BK314 := am (hbox); have GW314 := zge hg (zb0 HB.out); have GE314 := zge hg (zb0 HB.out); replace HB := am (below_step (zb0 HB.out) hb); clear hb hbox hg; obtain ⟨hcz6_0, hfz6_0⟩ := zc1 BK314.out) | ((with_reducible refine gate_callee (f := 7) rfl ?_); refine goesL_ (some 19) rfl rfl Try.func7 (by kernel_rfl) rfl #[.agg #[.slice A0_0 l0_0.length c0_0], .int .i64 1048576] rfl zr ?_; (with_reducible refine (laws_szDisk.calls k _ _ l0_0 1048576 t315 _ ?side1 ?side2 A3.out).mono ?_); (case side1 => repeat (first | exact (Kd.C_below HR0_0.out HB.out) | (with_reducible refine Kd.C_alloc ?_ _) | (with_reducible refine Kd.C_drewN ?_ _) | (with_reducible refine Kd.C_drew ?_))); (case side2 => exact HC0_0.out); rintro e w7 ⟨rfl, hb⟩; refine ⟨_, rfl, ?_⟩; replace BK314 := am (bb hb (kx BK314.out)); replace HB := am (below_step (zb1 HB.out GE314.out) hb); (try clear hb); (try clear hb2); (try clear hk); (try clear hi)))
  go_ret
  exact ⟨by first | rfl | (simp [errW_none, errW_some] <;> rfl) | (simp [*, errW_none, errW_some] <;> rfl), zb1 HB.out GE314.out⟩
 ·rw [if_neg c4] at H
  have c4b0 : decide (t315 < 0) = false := decide_eq_false c4
  clear c4
  replace H := Option.bind_eq_some_iff.mp H
  obtain ⟨t316, A80, H⟩ := H
  try dsimp only at H
  have A8 := Aside0.mk A80
  clear A80
  by_cases c9 : t316 < 0
  ·rw [if_pos c9] at H
   have c9b0 : decide (t316 < 0) = true := decide_eq_true c9
   clear c9
   obtain rfl := Option.some.inj H
   go_enter Try.func4, Try.ntmps4
   go_wp2_with (first | ((with_reducible refine gate_dst (N := 2) rfl ?_); refine box_event ?hg (N := 2) ?hd (cs := #[.slice A0_0 l0_0.length c0_0]) (t := 24) ?hr ?_; (case hd => rfl); (case hg => rfl); (case hr => first | (go_simp; done) | (go_simp; rfl)); intro gb314 hg w10 hbox hb; have BK314 := am (hbox); have GW314 := zge hg (zb0 HB.out); have GE314 := zge hg (zb0 HB.out); replace HB := am (below_step (zb0 HB.out) hb); clear hb hbox hg; obtain ⟨hcz11_0, hfz11_0⟩ := zc1 BK314.out) | ((with_reducible refine gate_callee (f := 7) rfl ?_); refine goesL_ (some 19) rfl rfl Try.func7 (by kernel_rfl) rfl #[.agg #[.slice A0_0 l0_0.length c0_0], .int .i64 1048576] rfl zr ?_; (with_reducible refine (laws_szDisk.calls k _ _ l0_0 1048576 t315 _ ?side1 ?side2 A3.out).mono ?_); (case side1 => repeat (first | exact (Kd.C_below HR0_0.out HB.out) | (with_reducible refine Kd.C_alloc ?_ _) | (with_reducible refine Kd.C_drewN ?_ _) | (with_reducible refine Kd.C_drew ?_))); (case side2 => exact HC0_0.out); rintro e w12 ⟨rfl, hb⟩; refine ⟨_, rfl, ?_⟩; replace BK314 := am (bb hb (kx BK314.out)); replace HB := am (below_step (zb1 HB.out GE314.out) hb); (try clear hb); (try clear hb2); (try clear hk); (try clear hi)) | ((with_reducible refine gate_callee (f := 16) rfl ?_); refine goesL_ (some 24) rfl rfl Try.func16 (by kernel_rfl) rfl #[.slice A1 l1.length c1, .int .i64 t315] rfl zr ?_; (with_reducible refine (laws_szActS.calls k _ _ l1 t315 t316 _ ?side1 ?side2 A8.out).mono ?_); (case side1 => repeat (first | exact (Kd.C_below HR1.out HB.out) | (with_reducible refine Kd.C_alloc ?_ _) | (with_reducible refine Kd.C_drewN ?_ _) | (with_reducible refine Kd.C_drew ?_))); (case side2 => exact HC1.out); rintro e w13 ⟨rfl, hb⟩; refine ⟨_, rfl, ?_⟩; replace BK314 := am (bb hb (kx BK314.out)); replace HB := am (below_step (zb1 HB.out GE314.out) hb); (try clear hb); (try clear hb2); (try clear hk); (try clear hi)))
   go_ret
   exact ⟨by first | rfl | (simp [errW_none, errW_some] <;> rfl) | (simp [*, errW_none, errW_some] <;> rfl), zb1 HB.out GE314.out⟩
  ·rw [if_neg c9] at H
   have c9b0 : decide (t316 < 0) = false := decide_eq_false c9
   clear c9
   replace H := Option.bind_eq_some_iff.mp H
   obtain ⟨t317, A140, H⟩ := H
   try dsimp only at H
   have A14 := Aside0.mk A140
   clear A140
   replace H := Option.bind_eq_some_iff.mp H
   obtain ⟨t320, A150, H⟩ := H
   try dsimp only at H
   have A15 := Aside0.mk A150
   clear A150
   replace H := Option.bind_eq_some_iff.mp H
   obtain ⟨⟨t323, t326⟩, A160, H⟩ := H
   try dsimp only at H
   have A16 := Aside0.mk A160
   clear A160
   replace H := Option.bind_eq_some_iff.mp H
   obtain ⟨t328, A170, H⟩ := H
   try dsimp only at H
   have A17 := Aside0.mk A170
   clear A170
   replace H := Option.bind_eq_some_iff.mp H
   obtain ⟨t332, A180, H⟩ := H
   try dsimp only at H
   have A18 := Aside0.mk A180
   clear A180
   replace H := Option.bind_eq_some_iff.mp H
   obtain ⟨⟨t335, t338⟩, A190, H⟩ := H
   try dsimp only at H
   have A19 := Aside0.mk A190
   clear A190
   have HC20 := Aside0.mk H
   clear H
   go_enter Try.func4, Try.ntmps4
   go_upto_region 12 with (first | ((with_reducible refine gate_dst (N := 2) rfl ?_); refine box_event ?hg (N := 2) ?hd (cs := #[.slice A0_0 l0_0.length c0_0]) (t := 24) ?hr ?_; (case hd => rfl); (case hg => rfl); (case hr => first | (go_simp; done) | (go_simp; rfl)); intro gb314 hg w21 hbox hb; have BK314 := am (hbox); have GW314 := zge hg (zb0 HB.out); have GE314 := zge hg (zb0 HB.out); replace HB := am (below_step (zb0 HB.out) hb); clear hb hbox hg; obtain ⟨hcz22_0, hfz22_0⟩ := zc1 BK314.out) | ((with_reducible refine gate_callee (f := 7) rfl ?_); refine goesL_ (some 19) rfl rfl Try.func7 (by kernel_rfl) rfl #[.agg #[.slice A0_0 l0_0.length c0_0], .int .i64 1048576] rfl zr ?_; (with_reducible refine (laws_szDisk.calls k _ _ l0_0 1048576 t315 _ ?side1 ?side2 A3.out).mono ?_); (case side1 => repeat (first | exact (Kd.C_below HR0_0.out HB.out) | (with_reducible refine Kd.C_alloc ?_ _) | (with_reducible refine Kd.C_drewN ?_ _) | (with_reducible refine Kd.C_drew ?_))); (case side2 => exact HC0_0.out); rintro e w23 ⟨rfl, hb⟩; refine ⟨_, rfl, ?_⟩; replace BK314 := am (bb hb (kx BK314.out)); replace HB := am (below_step (zb1 HB.out GE314.out) hb); (try clear hb); (try clear hb2); (try clear hk); (try clear hi)) | ((with_reducible refine gate_callee (f := 16) rfl ?_); refine goesL_ (some 24) rfl rfl Try.func16 (by kernel_rfl) rfl #[.slice A1 l1.length c1, .int .i64 t315] rfl zr ?_; (with_reducible refine (laws_szActS.calls k _ _ l1 t315 t316 _ ?side1 ?side2 A8.out).mono ?_); (case side1 => repeat (first | exact (Kd.C_below HR1.out HB.out) | (with_reducible refine Kd.C_alloc ?_ _) | (with_reducible refine Kd.C_drewN ?_ _) | (with_reducible refine Kd.C_drew ?_))); (case side2 => exact HC1.out); rintro e w24 ⟨rfl, hb⟩; refine ⟨_, rfl, ?_⟩; replace BK314 := am (bb hb (kx BK314.out)); replace HB := am (below_step (zb1 HB.out GE314.out) hb); (try clear hb); (try clear hb2); (try clear hk); (try clear hi); obtain ⟨hcz25_0, hfz25_0⟩ := zc1 BK314.out) | ((with_reducible refine gate_callee (f := 10) rfl ?_); refine goesL_ (some 29) rfl rfl Try.func10 (by kernel_rfl) rfl #[.agg #[.slice A0_0 l0_0.length c0_0]] rfl zr ?_; (with_reducible refine (laws_toDisk.calls k _ _ l0_0 t317 _ ?side1 ?side2 A14.out).mono ?_); (case side1 => repeat (first | exact (Kd.C_below HR0_0.out HB.out) | (with_reducible refine Kd.C_alloc ?_ _) | (with_reducible refine Kd.C_drewN ?_ _) | (with_reducible refine Kd.C_drew ?_))); (case side2 => exact HC0_0.out); rintro e w26 ⟨v318, rfl, ho0, hb⟩; refine ⟨_, rfl, ?_⟩; have HO319 := am (Kd.R_lower ho0 (below_size (zb1 HB.out GE314.out))); replace BK314 := am (bb hb (kx BK314.out)); replace HB := am (below_step (zb1 HB.out GE314.out) hb); (try clear hb); (try clear hb2); (try clear hk); (try clear hi); (try clear ho0)) | ((with_reducible refine gate_callee (f := 18) rfl ?_); refine goesL_ (some 31) rfl rfl Try.func18 (by kernel_rfl) rfl #[.slice A1 l1.length c1] rfl zr ?_; (with_reducible refine (laws_toActS.calls k _ _ l1 t320 _ ?side1 ?side2 A15.out).mono ?_); (case side1 => repeat (first | exact (Kd.C_below HR1.out HB.out) | (with_reducible refine Kd.C_alloc ?_ _) | (with_reducible refine Kd.C_drewN ?_ _) | (with_reducible refine Kd.C_drew ?_))); (case side2 => exact HC1.out); rintro e w27 ⟨v321, rfl, ho0, hb⟩; refine ⟨_, rfl, ?_⟩; have HO322 := am (Kd.R_lower ho0 (below_size (zb1 HB.out GE314.out))); replace HO319 := am (Kd.R_below (rx HO319.out) hb); replace BK314 := am (bb hb (kx BK314.out)); replace HB := am (below_step (zb1 HB.out GE314.out) hb); (try clear hb); (try clear hb2); (try clear hk); (try clear hi); (try clear ho0); obtain ⟨Ao28, co28, eo28⟩ := Kd.R_slice HO319.out; subst eo28; obtain ⟨Ao29, co29, eo29⟩ := Kd.R_slice HO322.out; subst eo29) | ((with_reducible refine gate_callee (f := 17) rfl ?_); refine goesL_ (some 32) rfl rfl Try.func17 (by kernel_rfl) rfl #[.agg #[.slice Ao28 t317.length co28], .slice Ao29 t320.length co29] rfl zr ?_; (with_reducible refine (spec_DoActs.calls k _ _ t317 _ _ t320 t323 t326 _ ?side1 ?side2 ?side3 ?side4 A16.out).mono ?_); (case side1 => repeat (first | exact (Kd.R_reads' HO319.out).2.2 | (with_reducible refine Kd.C_alloc ?_ _) | (with_reducible refine Kd.C_drewN ?_ _) | (with_reducible refine Kd.C_drew ?_))); (case side2 => exact (Kd.R_reads' HO319.out).2.1); (case side3 => repeat (first | exact (Kd.R_reads' HO322.out).2.2 | (with_reducible refine Kd.C_alloc ?_ _) | (with_reducible refine Kd.C_drewN ?_ _) | (with_reducible refine Kd.C_drew ?_))); (case side4 => exact (Kd.R_reads' HO322.out).2.1); rintro e w30 ⟨v324, rfl, ho0, hb⟩; refine ⟨_, rfl, ?_⟩; have HO325 := am (Kd.R_lower (Kd.R_new' ho0 (Kd.R_lt (rx HO319.out))) (below_size (zb1 HB.out GE314.out))); replace HO319 := am (Kd.R_elder' (rx HO319.out) (Kd.R_base ho0) hb); replace HO322 := am (Kd.R_below (rx HO322.out) hb); replace BK314 := am (bb hb (kx BK314.out)); replace HB := am (below_step (zb1 HB.out GE314.out) hb); (try clear hb); (try clear hb2); (try clear hk); (try clear hi); (try clear ho0)) | ((with_reducible refine gate_dst (N := 6) rfl ?_); refine box_event ?hg (N := 6) ?hd (cs := #[.slice none 0 0]) (t := 31) ?hr ?_; (case hd => rfl); (case hg => rfl); (case hr => first | (go_simp; done) | (go_simp; rfl)); intro gb327 hg w31 hbox hb; have BK327 := am (hbox); have GW327 := zge hg (zb1 HB.out GE314.out); have GE327 := zge hg (zb1 HB.out GE314.out); have NB314_327 := znl hg (kx BK314.out); have NB327_314 := zng hg (kx BK314.out); replace HO319 := am (Kd.R_below (rx HO319.out) hb); replace HO322 := am (Kd.R_below (rx HO322.out) hb); replace HO325 := am (Kd.R_below (rx HO325.out) hb); replace BK314 := am (bb hb (kx BK314.out)); replace HB := am (below_step (zb1 HB.out GE314.out) hb); clear hb hbox hg; obtain ⟨Ao32, co32, eo32⟩ := Kd.R_slice HO325.out; subst eo32; have hnb33 := NB327_314.out; have hnc33 := NB314_327.out; obtain ⟨hcz34_0, hfz34_0⟩ := zc1 BK327.out; obtain ⟨hcz35_0, hfz35_0⟩ := zc1 BK314.out) | ((with_reducible refine gate_callee (f := 10) rfl ?_); refine goesL_ (some 36) rfl rfl Try.func10 (by kernel_rfl) rfl #[.agg #[.slice A0_0 l0_0.length c0_0]] rfl zr ?_; (with_reducible refine (laws_toDisk.calls k _ _ l0_0 t328 _ ?side1 ?side2 A17.out).mono ?_); (case side1 => exact Kd.C_below HR0_0.out (zb2 HB.out GE314.out GE327.out)); (case side2 => exact HC0_0.out); rintro e w36 ⟨v329, rfl, ho0, hb⟩; refine ⟨_, rfl, ?_⟩; have HO330 := am (Kd.R_lower (Kd.R_new' (Kd.R_new' ho0 (Kd.R_lt (rx ((Kd.R_mono (Kd.R_far (p := ⟨gb327, 0, none⟩) (Kd.R_types HO319.out BK327.out (by decide)) (fun _ hk => hk.2) (.slice Ao32 t323.length co32)) (fun _ h_ => h_.1)))))) (Kd.R_lt (rx ((Kd.R_mono (Kd.R_far (p := ⟨gb327, 0, none⟩) (Kd.R_types HO325.out BK327.out (by decide)) (fun _ hk => hk.2) (.slice Ao32 t323.length co32)) (fun _ h_ => h_.1)))))) (below_size (zb2 HB.out GE314.out GE327.out))); replace HO319 := am (Kd.R_elder' (rx ((Kd.R_mono (Kd.R_far (p := ⟨gb327, 0, none⟩) (Kd.R_types HO319.out BK327.out (by decide)) (fun _ hk => hk.2) (.slice Ao32 t323.length co32)) (fun _ h_ => h_.1)))) (Kd.R_base ho0) hb); replace HO322 := am (Kd.R_below (rx ((Kd.R_mono (Kd.R_far (p := ⟨gb327, 0, none⟩) (Kd.R_types HO322.out BK327.out (by decide)) (fun _ hk => hk.2) (.slice Ao32 t323.length co32)) (fun _ h_ => h_.1)))) hb); replace HO325 := am (Kd.R_elder' (rx ((Kd.R_mono (Kd.R_far (p := ⟨gb327, 0, none⟩) (Kd.R_types HO325.out BK327.out (by decide)) (fun _ hk => hk.2) (.slice Ao32 t323.length co32)) (fun _ h_ => h_.1)))) (Kd.R_base ho0) hb); replace BK314 := am (bb hb (zf1 BK314.out NB314_327.out)); replace BK327 := am (blk_below (g := gb327) (o := .cells #[.slice Ao32 t323.length co32] 31 (0, 0)) (by (with_reducible repeat (first | refine blk_drewN ?_ _ | refine blk_drew ?_ | refine blk_alloc ?_ _)); refine blk_put (cs := #[.slice none 0 0]) ?_ 0 _ rfl; (with_reducible repeat (first | refine blk_drewN ?_ _ | refine blk_drew ?_ | refine blk_alloc ?_ _)); exact BK327.out) hb); replace HB := am (below_step (zb2 HB.out GE314.out GE327.out) hb); (try clear hb); (try clear hb2); (try clear hk); (try clear hi); (try clear ho0)) | ((with_reducible refine gate_dst (N := 8) rfl ?_); refine box_event ?hg (N := 8) ?hd (cs := #[.slice none 0 0]) (t := 31) ?hr ?_; (case hd => rfl); (case hg => rfl); (case hr => first | (go_simp; done) | (go_simp; rfl)); intro gb331 hg w37 hbox hb; have BK331 := am (hbox); have GW331 := zge hg (zb2 HB.out GE314.out GE327.out); have GE331 := zge hg (zb2 HB.out GE314.out GE327.out); have NB314_331 := znl hg (kx BK314.out); have NB331_314 := zng hg (kx BK314.out); have NB327_331 := znl hg (kx BK327.out); have NB331_327 := zng hg (kx BK327.out); replace HO319 := am (Kd.R_below (rx HO319.out) hb); replace HO322 := am (Kd.R_below (rx HO322.out) hb); replace HO325 := am (Kd.R_below (rx HO325.out) hb); replace HO330 := am (Kd.R_below (rx HO330.out) hb); replace BK314 := am (bb hb (kx BK314.out)); replace BK327 := am (bb hb (kx BK327.out)); replace HB := am (below_step (zb2 HB.out GE314.out GE327.out) hb); clear hb hbox hg; obtain ⟨Ao38, co38, eo38⟩ := Kd.R_slice HO330.out; subst eo38; have hnb39 := NB331_314.out; have hnc39 := NB314_331.out; have hnb40 := NB331_327.out; have hnc40 := NB327_331.out; obtain ⟨hcz41_0, hfz41_0⟩ := zc1 BK331.out) | ((with_reducible refine gate_callee (f := 18) rfl ?_); refine goesL_ (some 38) rfl rfl Try.func18 (by kernel_rfl) rfl #[.slice A1 l1.length c1] rfl zr ?_; (with_reducible refine (laws_toActS.calls k _ _ l1 t332 _ ?side1 ?side2 A18.out).mono ?_); (case side1 => exact Kd.C_below HR1.out (zb3 HB.out GE314.out GE327.out GE331.out)); (case side2 => exact HC1.out); rintro e w42 ⟨v333, rfl, ho0, hb⟩; refine ⟨_, rfl, ?_⟩; have HO334 := am (Kd.R_lower (Kd.R_new' ho0 (Kd.R_lt (rx ((Kd.R_mono (Kd.R_far (p := ⟨gb331, 0, none⟩) (Kd.R_types HO322.out BK331.out (by decide)) (fun _ hk => hk.2) (.slice Ao38 t328.length co38)) (fun _ h_ => h_.1)))))) (below_size (zb3 HB.out GE314.out GE327.out GE331.out))); replace HO319 := am (Kd.R_below (rx ((Kd.R_mono (Kd.R_far (p := ⟨gb331, 0, none⟩) (Kd.R_types HO319.out BK331.out (by decide)) (fun _ hk => hk.2) (.slice Ao38 t328.length co38)) (fun _ h_ => h_.1)))) hb); replace HO322 := am (Kd.R_elder' (rx ((Kd.R_mono (Kd.R_far (p := ⟨gb331, 0, none⟩) (Kd.R_types HO322.out BK331.out (by decide)) (fun _ hk => hk.2) (.slice Ao38 t328.length co38)) (fun _ h_ => h_.1)))) (Kd.R_base ho0) hb); replace HO325 := am (Kd.R_below (rx ((Kd.R_mono (Kd.R_far (p := ⟨gb331, 0, none⟩) (Kd.R_types HO325.out BK331.out (by decide)) (fun _ hk => hk.2) (.slice Ao38 t328.length co38)) (fun _ h_ => h_.1)))) hb); replace HO330 := am (Kd.R_below (rx ((Kd.R_mono (Kd.R_far (p := ⟨gb331, 0, none⟩) (Kd.R_types HO330.out BK331.out (by decide)) (fun _ hk => hk.2) (.slice Ao38 t328.length co38)) (fun _ h_ => h_.1)))) hb); replace BK314 := am (bb hb (zf1 BK314.out NB314_331.out)); replace BK327 := am (bb hb (zf1 BK327.out NB327_331.out)); replace BK331 := am (blk_below (g := gb331) (o := .cells #[.slice Ao38 t328.length co38] 31 (0, 0)) (by (with_reducible repeat (first | refine blk_drewN ?_ _ | refine blk_drew ?_ | refine blk_alloc ?_ _)); refine blk_put (cs := #[.slice none 0 0]) ?_ 0 _ rfl; (with_reducible repeat (first | refine blk_drewN ?_ _ | refine blk_drew ?_ | refine blk_alloc ?_ _)); exact BK331.out) hb); replace HB := am (below_step (zb3 HB.out GE314.out GE327.out GE331.out) hb); (try clear hb); (try clear hb2); (try clear hk); (try clear hi); (try clear ho0); obtain ⟨hcz43_0, hfz43_0⟩ := zc1 BK331.out; obtain ⟨Ao44, co44, eo44⟩ := Kd.R_slice HO334.out; subst eo44) | ((with_reducible refine gate_callee (f := 19) rfl ?_); refine goesL_ (some 42) rfl rfl Try.func19 (by kernel_rfl) rfl #[.agg #[.slice Ao38 t328.length co38], .slice Ao44 t332.length co44] rfl zr ?_; (with_reducible refine (impl_DoActs.calls k _ _ t328 _ _ t332 t335 t338 _ ?side1 ?side2 ?side3 ?side4 A19.out).mono ?_); (case side1 => repeat (first | exact (Kd.R_reads' HO330.out).2.2 | (with_reducible refine Kd.C_alloc ?_ _) | (with_reducible refine Kd.C_drewN ?_ _) | (with_reducible refine Kd.C_drew ?_))); (case side2 => exact (Kd.R_reads' HO330.out).2.1); (case side3 => repeat (first | exact (Kd.R_reads' HO334.out).2.2 | (with_reducible refine Kd.C_alloc ?_ _) | (with_reducible refine Kd.C_drewN ?_ _) | (with_reducible refine Kd.C_drew ?_))); (case side4 => exact (Kd.R_reads' HO334.out).2.1); rintro e w45 ⟨v336, rfl, ho0, hb⟩; refine ⟨_, rfl, ?_⟩; have HO337 := am (Kd.R_lower (Kd.R_new' (Kd.R_new' (Kd.R_new' ho0 (Kd.R_lt (rx HO319.out))) (Kd.R_lt (rx HO325.out))) (Kd.R_lt (rx HO330.out))) (below_size (zb3 HB.out GE314.out GE327.out GE331.out))); replace HO319 := am (Kd.R_elder' (rx HO319.out) (Kd.R_base ho0) hb); replace HO322 := am (Kd.R_below (rx HO322.out) hb); replace HO325 := am (Kd.R_elder' (rx HO325.out) (Kd.R_base ho0) hb); replace HO330 := am (Kd.R_elder' (rx HO330.out) (Kd.R_base ho0) hb); replace HO334 := am (Kd.R_below (rx HO334.out) hb); replace BK314 := am (bb hb (kx BK314.out)); replace BK327 := am (bb hb (kx BK327.out)); replace BK331 := am (bb hb (kx BK331.out)); replace HB := am (below_step (zb3 HB.out GE314.out GE327.out GE331.out) hb); (try clear hb); (try clear hb2); (try clear hk); (try clear hi); (try clear ho0)) | ((with_reducible refine gate_dst (N := 10) rfl ?_); refine box_event ?hg (N := 10) ?hd (cs := #[.slice none 0 0]) (t := 31) ?hr ?_; (case hd => rfl); (case hg => rfl); (case hr => first | (go_simp; done) | (go_simp; rfl)); intro gb339 hg w46 hbox hb; have BK339 := am (hbox); have GW339 := zge hg (zb3 HB.out GE314.out GE327.out GE331.out); have GE339 := zge hg (zb3 HB.out GE314.out GE327.out GE331.out); have NB314_339 := znl hg (kx BK314.out); have NB339_314 := zng hg (kx BK314.out); have NB327_339 := znl hg (kx BK327.out); have NB339_327 := zng hg (kx BK327.out); have NB331_339 := znl hg (kx BK331.out); have NB339_331 := zng hg (kx BK331.out); replace HO319 := am (Kd.R_below (rx HO319.out) hb); replace HO322 := am (Kd.R_below (rx HO322.out) hb); replace HO325 := am (Kd.R_below (rx HO325.out) hb); replace HO330 := am (Kd.R_below (rx HO330.out) hb); replace HO334 := am (Kd.R_below (rx HO334.out) hb); replace HO337 := am (Kd.R_below (rx HO337.out) hb); replace BK314 := am (bb hb (kx BK314.out)); replace BK327 := am (bb hb (kx BK327.out)); replace BK331 := am (bb hb (kx BK331.out)); replace HB := am (below_step (zb3 HB.out GE314.out GE327.out GE331.out) hb); clear hb hbox hg; obtain ⟨Ao47, co47, eo47⟩ := Kd.R_slice HO337.out; subst eo47; have hnb48 := NB339_314.out; have hnc48 := NB314_339.out; have hnb49 := NB339_327.out; have hnc49 := NB327_339.out; have hnb50 := NB339_331.out; have hnc50 := NB331_339.out; obtain ⟨hcz51_0, hfz51_0⟩ := zc1 BK339.out))
   (try simp only [Act.put, List.setIfInBounds_toArray, List.set_cons_zero, List.set_cons_succ])
   go_cut [53] (fun v53 wc => ∃ (kq : Nat) (x53_19 : Bool), v53 = .bool x53_19 ∧ Aside0 (laws_FnExactDoActs.j0 kq l1 t326 t332 t338 x53_19 l0_0 t323 t328 t335 = some r) ∧ Aside0 (kq ≤ k) ∧ Aside0 (Kd.R k35 35 wc w.heap.size (fun _ => True) (.slice Ao44 t332.length co44) t332) ∧ Aside0 (Kd.R k66 66 wc w.heap.size (fun k_ => some k_ ≠ ((.slice Ao38 t328.length co38) : Value).ownBlock ∧ some k_ ≠ ((.slice Ao47 t335.length co47) : Value).ownBlock) (.slice Ao32 t323.length co32) t323) ∧ Aside0 (Kd.R k66 66 wc w.heap.size (fun k_ => some k_ ≠ ((.slice Ao32 t323.length co32) : Value).ownBlock ∧ some k_ ≠ ((.slice Ao47 t335.length co47) : Value).ownBlock) (.slice Ao38 t328.length co38) t328) ∧ Aside0 (Kd.R k66 66 wc w.heap.size (fun k_ => some k_ ≠ ((.slice Ao32 t323.length co32) : Value).ownBlock ∧ some k_ ≠ ((.slice Ao38 t328.length co38) : Value).ownBlock) (.slice Ao47 t335.length co47) t335) ∧ Aside0 (wc.heap[gb314]? = some (.cells #[(.slice A0_0 l0_0.length c0_0)] 24 (0, 0))) ∧ Aside0 (wc.heap[gb327]? = some (.cells #[(.slice Ao32 t323.length co32)] 31 (0, 0))) ∧ Aside0 (wc.heap[gb331]? = some (.cells #[(.slice Ao38 t328.length co38)] 31 (0, 0))) ∧ Aside0 (wc.heap[gb339]? = some (.cells #[(.slice Ao47 t335.length co47)] 31 (0, 0))) ∧ Aside0 (Below w.heap.size w wc))
   case first =>
    have H := HC20.out
    clear HC20
    replace H := Option.bind_eq_some_iff.mp H
    obtain ⟨t340, A520, H⟩ := H
    try dsimp only at H
    have A52 := Aside0.mk A520
    clear A520
    by_cases c53 : t340 = true
    ·subst c53
     have H1 : (laws_FnExactDoActs.j0 k l1 t326 t332 t338 (t338 != t326) l0_0 t323 t328 t335) = some r := by rw [if_pos rfl] at H; exact H
     clear H
     have H := H1
     clear H1
     have H' := Aside0.mk H
     clear H
     have hnb54 := NB339_314.out
     have hnc54 := NB314_339.out
     have hnb55 := NB339_327.out
     have hnc55 := NB327_339.out
     have hnb56 := NB339_331.out
     have hnc56 := NB331_339.out
     obtain ⟨hcz57_0, hfz57_0⟩ := zc1 BK339.out
     have hnb58 := NB327_314.out
     have hnc58 := NB314_327.out
     have hnb59 := NB327_331.out
     have hnc59 := NB331_327.out
     obtain ⟨hcz60_0, hfz60_0⟩ := zc1 BK327.out
     go_wp2_with (first | ((with_reducible refine gate_callee (f := 13) rfl ?_); refine goesL_ (some 47) rfl rfl Try.func13 (by kernel_rfl) rfl #[.agg #[.slice Ao47 t335.length co47], .agg #[.slice Ao32 t323.length co32]] rfl zr ?_; (with_reducible refine (laws_eqDisk.calls k _ _ t335 _ _ t323 true _ ?side1 ?side2 ?side3 ?side4 A52.out).mono ?_); (case side1 => refine (Kd.R_reads' (e := 66) (base := w.heap.size) (ok := fun k_ => (((True ∧ some k_ ≠ (.slice Ao28 t317.length co28 : Value).ownBlock) ∧ some k_ ≠ (.slice Ao32 t323.length co32 : Value).ownBlock) ∧ some k_ ≠ (.slice Ao38 t328.length co38 : Value).ownBlock)) (n := t335.length) (c := co47) ?_).2.2; exact (rx ((Kd.R_mono (Kd.R_far (p := ⟨gb339, 0, none⟩) (Kd.R_types HO337.out BK339.out (by decide)) (fun _ hk => hk.2) (.slice Ao47 t335.length co47)) (fun _ h_ => h_.1))))); (case side2 => exact (Kd.R_reads' HO337.out).2.1); (case side3 => refine (Kd.R_reads' (e := 66) (base := w.heap.size) (ok := fun k_ => (((True ∧ some k_ ≠ (.slice Ao28 t317.length co28 : Value).ownBlock) ∧ some k_ ≠ (.slice Ao38 t328.length co38 : Value).ownBlock) ∧ some k_ ≠ (.slice Ao47 t335.length co47 : Value).ownBlock)) (n := t323.length) (c := co32) ?_).2.2; exact (rx ((Kd.R_mono (Kd.R_far (p := ⟨gb339, 0, none⟩) (Kd.R_types HO325.out BK339.out (by decide)) (fun _ hk => hk.2) (.slice Ao47 t335.length co47)) (fun _ h_ => h_.1))))); (case side4 => exact (Kd.R_reads' HO325.out).2.1); rintro e w61 ⟨rfl, hb⟩; refine ⟨_, rfl, ?_⟩; replace HO319 := am (Kd.R_below (rx ((Kd.R_mono (Kd.R_far (p := ⟨gb339, 0, none⟩) (Kd.R_types HO319.out BK339.out (by decide)) (fun _ hk => hk.2) (.slice Ao47 t335.length co47)) (fun _ h_ => h_.1)))) hb); replace HO322 := am (Kd.R_below (rx ((Kd.R_mono (Kd.R_far (p := ⟨gb339, 0, none⟩) (Kd.R_types HO322.out BK339.out (by decide)) (fun _ hk => hk.2) (.slice Ao47 t335.length co47)) (fun _ h_ => h_.1)))) hb); replace HO325 := am (Kd.R_below (rx ((Kd.R_mono (Kd.R_far (p := ⟨gb339, 0, none⟩) (Kd.R_types HO325.out BK339.out (by decide)) (fun _ hk => hk.2) (.slice Ao47 t335.length co47)) (fun _ h_ => h_.1)))) hb); replace HO330 := am (Kd.R_below (rx ((Kd.R_mono (Kd.R_far (p := ⟨gb339, 0, none⟩) (Kd.R_types HO330.out BK339.out (by decide)) (fun _ hk => hk.2) (.slice Ao47 t335.length co47)) (fun _ h_ => h_.1)))) hb); replace HO334 := am (Kd.R_below (rx ((Kd.R_mono (Kd.R_far (p := ⟨gb339, 0, none⟩) (Kd.R_types HO334.out BK339.out (by decide)) (fun _ hk => hk.2) (.slice Ao47 t335.length co47)) (fun _ h_ => h_.1)))) hb); replace HO337 := am (Kd.R_below (rx ((Kd.R_mono (Kd.R_far (p := ⟨gb339, 0, none⟩) (Kd.R_types HO337.out BK339.out (by decide)) (fun _ hk => hk.2) (.slice Ao47 t335.length co47)) (fun _ h_ => h_.1)))) hb); replace BK314 := am (bb hb (zf1 BK314.out NB314_339.out)); replace BK327 := am (bb hb (zf1 BK327.out NB327_339.out)); replace BK331 := am (bb hb (zf1 BK331.out NB331_339.out)); replace BK339 := am (blk_below (g := gb339) (o := .cells #[.slice Ao47 t335.length co47] 31 (0, 0)) (by (with_reducible repeat (first | refine blk_drewN ?_ _ | refine blk_drew ?_ | refine blk_alloc ?_ _)); refine blk_put (cs := #[.slice none 0 0]) ?_ 0 _ rfl; (with_reducible repeat (first | refine blk_drewN ?_ _ | refine blk_drew ?_ | refine blk_alloc ?_ _)); exact BK339.out) hb); replace HB := am (below_step (zb4 HB.out GE314.out GE327.out GE331.out GE339.out) hb); (try clear hb); (try clear hb2); (try clear hk); (try clear hi)))
     go_meet
     case rel => exact ⟨_, ((t338 != t326)), (by first | rfl | (simp; done) | (simp [*]; done)), H', ⟨by first | omega | exact Nat.le_refl _⟩, ⟨rx (Kd.R_mono HO334.out (fun _ hk => trivial))⟩, ⟨rx (Kd.R_mono HO325.out (fun _ hk => ⟨hk.1.2, hk.2⟩))⟩, ⟨rx (Kd.R_mono HO330.out (fun _ hk => ⟨hk.1.2, hk.2⟩))⟩, ⟨rx (Kd.R_mono HO337.out (fun _ hk => ⟨hk.1.2, hk.2⟩))⟩, ⟨kx BK314.out⟩, ⟨kx BK327.out⟩, ⟨kx BK331.out⟩, ⟨kx BK339.out⟩, ⟨zb4 HB.out GE314.out GE327.out GE331.out GE339.out⟩⟩
    ·replace c53 := Bool.eq_false_iff.mpr c53
     subst c53
     have H1 : (laws_FnExactDoActs.j0 k l1 t326 t332 t338 true l0_0 t323 t328 t335) = some r := by rw [if_neg (show ¬ (false = true) by decide)] at H; exact H
     clear H
     have H := H1
     clear H1
     have H' := Aside0.mk H
     clear H
     have hnb62 := NB339_314.out
     have hnc62 := NB314_339.out
     have hnb63 := NB339_327.out
     have hnc63 := NB327_339.out
     have hnb64 := NB339_331.out
     have hnc64 := NB331_339.out
     obtain ⟨hcz65_0, hfz65_0⟩ := zc1 BK339.out
     have hnb66 := NB327_314.out
     have hnc66 := NB314_327.out
     have hnb67 := NB327_331.out
     have hnc67 := NB331_327.out
     obtain ⟨hcz68_0, hfz68_0⟩ := zc1 BK327.out
     go_wp2_with (first | ((with_reducible refine gate_callee (f := 13) rfl ?_); refine goesL_ (some 47) rfl rfl Try.func13 (by kernel_rfl) rfl #[.agg #[.slice Ao47 t335.length co47], .agg #[.slice Ao32 t323.length co32]] rfl zr ?_; (with_reducible refine (laws_eqDisk.calls k _ _ t335 _ _ t323 false _ ?side1 ?side2 ?side3 ?side4 A52.out).mono ?_); (case side1 => refine (Kd.R_reads' (e := 66) (base := w.heap.size) (ok := fun k_ => (((True ∧ some k_ ≠ (.slice Ao28 t317.length co28 : Value).ownBlock) ∧ some k_ ≠ (.slice Ao32 t323.length co32 : Value).ownBlock) ∧ some k_ ≠ (.slice Ao38 t328.length co38 : Value).ownBlock)) (n := t335.length) (c := co47) ?_).2.2; exact (rx ((Kd.R_mono (Kd.R_far (p := ⟨gb339, 0, none⟩) (Kd.R_types HO337.out BK339.out (by decide)) (fun _ hk => hk.2) (.slice Ao47 t335.length co47)) (fun _ h_ => h_.1))))); (case side2 => exact (Kd.R_reads' HO337.out).2.1); (case side3 => refine (Kd.R_reads' (e := 66) (base := w.heap.size) (ok := fun k_ => (((True ∧ some k_ ≠ (.slice Ao28 t317.length co28 : Value).ownBlock) ∧ some k_ ≠ (.slice Ao38 t328.length co38 : Value).ownBlock) ∧ some k_ ≠ (.slice Ao47 t335.length co47 : Value).ownBlock)) (n := t323.length) (c := co32) ?_).2.2; exact (rx ((Kd.R_mono (Kd.R_far (p := ⟨gb339, 0, none⟩) (Kd.R_types HO325.out BK339.out (by decide)) (fun _ hk => hk.2) (.slice Ao47 t335.length co47)) (fun _ h_ => h_.1))))); (case side4 => exact (Kd.R_reads' HO325.out).2.1); rintro e w69 ⟨rfl, hb⟩; refine ⟨_, rfl, ?_⟩; replace HO319 := am (Kd.R_below (rx ((Kd.R_mono (Kd.R_far (p := ⟨gb339, 0, none⟩) (Kd.R_types HO319.out BK339.out (by decide)) (fun _ hk => hk.2) (.slice Ao47 t335.length co47)) (fun _ h_ => h_.1)))) hb); replace HO322 := am (Kd.R_below (rx ((Kd.R_mono (Kd.R_far (p := ⟨gb339, 0, none⟩) (Kd.R_types HO322.out BK339.out (by decide)) (fun _ hk => hk.2) (.slice Ao47 t335.length co47)) (fun _ h_ => h_.1)))) hb); replace HO325 := am (Kd.R_below (rx ((Kd.R_mono (Kd.R_far (p := ⟨gb339, 0, none⟩) (Kd.R_types HO325.out BK339.out (by decide)) (fun _ hk => hk.2) (.slice Ao47 t335.length co47)) (fun _ h_ => h_.1)))) hb); replace HO330 := am (Kd.R_below (rx ((Kd.R_mono (Kd.R_far (p := ⟨gb339, 0, none⟩) (Kd.R_types HO330.out BK339.out (by decide)) (fun _ hk => hk.2) (.slice Ao47 t335.length co47)) (fun _ h_ => h_.1)))) hb); replace HO334 := am (Kd.R_below (rx ((Kd.R_mono (Kd.R_far (p := ⟨gb339, 0, none⟩) (Kd.R_types HO334.out BK339.out (by decide)) (fun _ hk => hk.2) (.slice Ao47 t335.length co47)) (fun _ h_ => h_.1)))) hb); replace HO337 := am (Kd.R_below (rx ((Kd.R_mono (Kd.R_far (p := ⟨gb339, 0, none⟩) (Kd.R_types HO337.out BK339.out (by decide)) (fun _ hk => hk.2) (.slice Ao47 t335.length co47)) (fun _ h_ => h_.1)))) hb); replace BK314 := am (bb hb (zf1 BK314.out NB314_339.out)); replace BK327 := am (bb hb (zf1 BK327.out NB327_339.out)); replace BK331 := am (bb hb (zf1 BK331.out NB331_339.out)); replace BK339 := am (blk_below (g := gb339) (o := .cells #[.slice Ao47 t335.length co47] 31 (0, 0)) (by (with_reducible repeat (first | refine blk_drewN ?_ _ | refine blk_drew ?_ | refine blk_alloc ?_ _)); refine blk_put (cs := #[.slice none 0 0]) ?_ 0 _ rfl; (with_reducible repeat (first | refine blk_drewN ?_ _ | refine blk_drew ?_ | refine blk_alloc ?_ _)); exact BK339.out) hb); replace HB := am (below_step (zb4 HB.out GE314.out GE327.out GE331.out GE339.out) hb); (try clear hb); (try clear hb2); (try clear hk); (try clear hi)))
     go_meet
     case rel => exact ⟨_, (true), (by first | rfl | (simp; done) | (simp [*]; done)), H', ⟨by first | omega | exact Nat.le_refl _⟩, ⟨rx (Kd.R_mono HO334.out (fun _ hk => trivial))⟩, ⟨rx (Kd.R_mono HO325.out (fun _ hk => ⟨hk.1.2, hk.2⟩))⟩, ⟨rx (Kd.R_mono HO330.out (fun _ hk => ⟨hk.1.2, hk.2⟩))⟩, ⟨rx (Kd.R_mono HO337.out (fun _ hk => ⟨hk.1.2, hk.2⟩))⟩, ⟨kx BK314.out⟩, ⟨kx BK327.out⟩, ⟨kx BK331.out⟩, ⟨kx BK339.out⟩, ⟨zb4 HB.out GE314.out GE327.out GE331.out GE339.out⟩⟩
   case rest =>
    clear HC20
    try clear c1
    try clear p2
    try clear c3
    try clear c4
    try clear c4b0
    try clear c5
    try clear c6
    try clear c7
    try clear c9
    try clear c9b0
    try clear c10
    try clear c13
    try clear c16
    try clear c17
    try clear c18
    try clear c19
    try clear c33
    try clear c39
    try clear c40
    try clear c48
    try clear c49
    try clear c50
    try clear c53
    try clear c54
    try clear c55
    try clear c56
    try clear c58
    try clear c59
    try clear c62
    try clear c63
    try clear c64
    try clear c66
    try clear c67
    try clear hcz11_0
    try clear hcz22_0
    try clear hcz25_0
    try clear hcz34_0
    try clear hcz35_0
    try clear hcz41_0
    try clear hcz43_0
    try clear hcz51_0
    try clear hcz57_0
    try clear hcz60_0
    try clear hcz65_0
    try clear hcz68_0
    try clear hcz6_0
    try clear hfz11_0
    try clear hfz22_0
    try clear hfz25_0
    try clear hfz34_0
    try clear hfz35_0
    try clear hfz41_0
    try clear hfz43_0
    try clear hfz51_0
    try clear hfz57_0
    try clear hfz60_0
    try clear hfz65_0
    try clear hfz68_0
    try clear hfz6_0
    obtain ⟨kq, x53_19, rfl, HA, HJ19, HO_9, HO_328000, HO_332000, HO_340000, BK314, BK327, BK331, BK339, HB⟩ := hcut
    cases kq with
    | zero => exact absurd HA.out (by simp [laws_FnExactDoActs.j0])
    | succ kj19 =>
     have H := HA.out
     clear HA
     simp only [laws_FnExactDoActs.j0] at H
     by_cases c70 : x53_19 = true
     ·subst c70
      have H1 : (some false) = some r := by rw [if_pos rfl] at H; exact H
      clear H
      have H := H1
      clear H1
      exact absurd ((Option.some.inj H).trans HLT.out) (by decide)
     ·replace c70 := Bool.eq_false_iff.mpr c70
      subst c70
      have H1 : ((laws_toDisk.f kj19 l0_0).bind fun t341 => ((laws_eqDisk.f kj19 t328 t341).bind fun t344 => (if t344 = true then ((laws_toActS.f kj19 l1).bind fun t345 => ((laws_eqActS.f kj19 t332 t345).bind fun t348 => (if t348 = true then ((laws_markDisk.f kj19 t328 1).bind fun bt349 => ((laws_markActS.f kj19 t332 bt349.1).bind fun bt351 => (if bt351.1 < 0 then (laws_FnExactDoActs.j1 kj19 l1 t326 true l0_0 t323 t335) else ((laws_eqDisk.f kj19 t335 t323).bind fun t353 => (if t353 = true then (laws_FnExactDoActs.j1 kj19 l1 t326 (t338 != t326) l0_0 t323 t335) else (laws_FnExactDoActs.j1 kj19 l1 t326 true l0_0 t323 t335)))))) else (some false)))) else (some false)))) = some r := by rw [if_neg (show ¬ (false = true) by decide)] at H; exact H
      clear H
      have H := H1
      clear H1
      replace H := Option.bind_eq_some_iff.mp H
      obtain ⟨t341, A710, H⟩ := H
      try dsimp only at H
      have A71 := Aside0.mk A710
      clear A710
      replace H := Option.bind_eq_some_iff.mp H
      obtain ⟨t344, A720, H⟩ := H
      try dsimp only at H
      have A72 := Aside0.mk A720
      clear A720
      by_cases c73 : t344 = true
      ·subst c73
       have H1 : ((laws_toActS.f kj19 l1).bind fun t345 => ((laws_eqActS.f kj19 t332 t345).bind fun t348 => (if t348 = true then ((laws_markDisk.f kj19 t328 1).bind fun bt349 => ((laws_markActS.f kj19 t332 bt349.1).bind fun bt351 => (if bt351.1 < 0 then (laws_FnExactDoActs.j1 kj19 l1 t326 true l0_0 t323 t335) else ((laws_eqDisk.f kj19 t335 t323).bind fun t353 => (if t353 = true then (laws_FnExactDoActs.j1 kj19 l1 t326 (t338 != t326) l0_0 t323 t335) else (laws_FnExactDoActs.j1 kj19 l1 t326 true l0_0 t323 t335)))))) else (some false)))) = some r := by rw [if_pos rfl] at H; exact H
       clear H
       have H := H1
       clear H1
       replace H := Option.bind_eq_some_iff.mp H
       obtain ⟨t345, A740, H⟩ := H
       try dsimp only at H
       have A74 := Aside0.mk A740
       clear A740
       replace H := Option.bind_eq_some_iff.mp H
       obtain ⟨t348, A750, H⟩ := H
       try dsimp only at H
       have A75 := Aside0.mk A750
       clear A750
       by_cases c76 : t348 = true
       ·subst c76
        have H1 : ((laws_markDisk.f kj19 t328 1).bind fun bt349 => ((laws_markActS.f kj19 t332 bt349.1).bind fun bt351 => (if bt351.1 < 0 then (laws_FnExactDoActs.j1 kj19 l1 t326 true l0_0 t323 t335) else ((laws_eqDisk.f kj19 t335 t323).bind fun t353 => (if t353 = true then (laws_FnExactDoActs.j1 kj19 l1 t326 (t338 != t326) l0_0 t323 t335) else (laws_FnExactDoActs.j1 kj19 l1 t326 true l0_0 t323 t335)))))) = some r := by rw [if_pos rfl] at H; exact H
        clear H
        have H := H1
        clear H1
        replace H := Option.bind_eq_some_iff.mp H
        obtain ⟨⟨t349, t350⟩, A770, H⟩ := H
        try dsimp only at H
        have A77 := Aside0.mk A770
        clear A770
        replace H := Option.bind_eq_some_iff.mp H
        obtain ⟨⟨t351, t352⟩, A780, H⟩ := H
        try dsimp only at H
        have A78 := Aside0.mk A780
        clear A780
        have HC79 := Aside0.mk H
        clear H
        try go_wp2
        replace HO_9 := am (Kd.R_drew HO_9.out)
        replace HO_328000 := am (Kd.R_drew HO_328000.out)
        replace HO_332000 := am (Kd.R_drew HO_332000.out)
        replace HO_340000 := am (Kd.R_drew HO_340000.out)
        replace BK314 := am (blk_drew BK314.out)
        replace BK327 := am (blk_drew BK327.out)
        replace BK331 := am (blk_drew BK331.out)
        replace BK339 := am (blk_drew BK339.out)
        replace HB := am (below_drew1 HB.out)
        refine start_ (n := 5) (S := fun w' => w'.cell? ⟨gb331, 0, none⟩ = some (.slice Ao38 t328.length co38) ∧ w'.cell? ⟨gb314, 0, none⟩ = some (.slice A0_0 l0_0.length c0_0)) (ds := []) #[false, false, false, false, false] (by kernel_rfl) rfl rfl ⟨ct BK331.out 0, ct BK314.out 0⟩ (fun hHeld => ?_)
        generalize wc.drew = w80 at HO_9 HO_328000 HO_332000 HO_340000 BK314 BK327 BK331 BK339 HB hHeld ⊢
        refine take_ (i := 0) (N := some 54) (v := ?_) (a' := ?_) #[true, false, false, false, false] rfl rfl (by kernel_rfl) (fun _ _ _ h => h) (Or.inl ⟨by rfl, ?_⟩) hHeld ?_ ?_
        rotate_left
        ·rintro w' ⟨s0, s1⟩
         go_simp
         with_reducible rfl
        rotate_left
        ·simp only [Act.put, List.setIfInBounds_toArray, List.set_cons_zero, List.set_cons_succ, i64_w, i32_w]
         rfl
        refine take_ (i := 1) (N := some 55) (v := ?_) (a' := ?_) #[true, true, false, false, false] rfl rfl (by kernel_rfl) (fun _ _ _ h => h) (Or.inl ⟨by rfl, ?_⟩) hHeld ?_ ?_
        rotate_left
        ·rintro w' ⟨s0, s1⟩
         go_simp
         with_reducible rfl
        rotate_left
        ·simp only [Act.put, List.setIfInBounds_toArray, List.set_cons_zero, List.set_cons_succ, i64_w, i32_w]
         rfl
        refine one_ (i := 2) (N := some 56) #[true, true, true, false, false] rfl rfl (by kernel_rfl) (by decide) (fun K hK => ?_)
        refine goes_ Try.func10 (by kernel_rfl) rfl #[.agg #[.slice A0_0 l0_0.length c0_0]] (by rfl) rfl rfl zr ?_
        with_reducible refine (laws_toDisk.calls kj19 _ _ l0_0 t341 _ ?side1 ?side2 A71.out).mono ?_
        (case side1 => repeat (first | exact (Kd.C_below HR0_0.out HB.out) | (with_reducible refine Kd.C_alloc ?_ _) | (with_reducible refine Kd.C_drewN ?_ _) | (with_reducible refine Kd.C_drew ?_)))
        (case side2 => exact HC0_0.out)
        rintro e w81 ⟨v342, rfl, ho0, hb⟩
        refine ⟨_, rfl, ?_⟩
        have HO343 := am (Kd.R_lower (Kd.R_new' (Kd.R_new' (Kd.R_new' ho0 (Kd.R_lt (rx HO_328000.out))) (Kd.R_lt (rx HO_332000.out))) (Kd.R_lt (rx HO_340000.out))) (below_size (zb4 HB.out GE314.out GE327.out GE331.out GE339.out)))
        replace HO_9 := am (Kd.R_below (rx HO_9.out) hb)
        replace HO_328000 := am (Kd.R_elder' (rx HO_328000.out) (Kd.R_base ho0) hb)
        replace HO_332000 := am (Kd.R_elder' (rx HO_332000.out) (Kd.R_base ho0) hb)
        replace HO_340000 := am (Kd.R_elder' (rx HO_340000.out) (Kd.R_base ho0) hb)
        replace BK314 := am (bb hb (kx BK314.out))
        replace BK327 := am (bb hb (kx BK327.out))
        replace BK331 := am (bb hb (kx BK331.out))
        replace BK339 := am (bb hb (kx BK339.out))
        replace HB := am (below_step (zb4 HB.out GE314.out GE327.out GE331.out GE339.out) hb)
        try clear hb
        try clear hb2
        try clear hk
        try clear hi
        try clear ho0
        obtain ⟨Ao82, co82, eo82⟩ := Kd.R_slice HO343.out
        (first | subst eo82 | (injection eo82 with f1_ f2_ f3_; have f4_ := f1_.symm; have f5_ := f3_.symm; clear f1_ f2_ f3_; subst f4_; subst f5_))
        refine hK.out _ _ ⟨ct BK331.out 0, ct BK314.out 0⟩ (fun hHeld => ?_)
        clear hK K
        refine norm_ (a' := ?_) ?_ ?_
        rotate_left
        ·show Act.put _ (some 56) _ = _
         simp only [Act.put, List.setIfInBounds_toArray, List.set_cons_zero, List.set_cons_succ, i64_w, i32_w]
         rfl
        refine one_ (i := 3) (N := some 57) #[true, true, true, true, false] rfl rfl (by kernel_rfl) (by decide) (fun K hK => ?_)
        refine goes_ Try.func13 (by kernel_rfl) rfl #[.agg #[.slice Ao38 t328.length co38], .agg #[.slice Ao82 t341.length co82]] (by rfl) rfl rfl zr ?_
        with_reducible refine (laws_eqDisk.calls kj19 _ _ t328 _ _ t341 true _ ?side1 ?side2 ?side3 ?side4 A72.out).mono ?_
        (case side1 => repeat (first | exact (Kd.R_reads' HO_332000.out).2.2 | (with_reducible refine Kd.C_alloc ?_ _) | (with_reducible refine Kd.C_drewN ?_ _) | (with_reducible refine Kd.C_drew ?_)))
        (case side2 => exact (Kd.R_reads' HO_332000.out).2.1)
        (case side3 => repeat (first | exact (Kd.R_reads' HO343.out).2.2 | (with_reducible refine Kd.C_alloc ?_ _) | (with_reducible refine Kd.C_drewN ?_ _) | (with_reducible refine Kd.C_drew ?_)))
        (case side4 => exact (Kd.R_reads' HO343.out).2.1)
        rintro e w83 ⟨rfl, hb⟩
        refine ⟨_, rfl, ?_⟩
        replace HO_9 := am (Kd.R_below (rx HO_9.out) hb)
        replace HO_328000 := am (Kd.R_below (rx HO_328000.out) hb)
        replace HO_332000 := am (Kd.R_below (rx HO_332000.out) hb)
        replace HO_340000 := am (Kd.R_below (rx HO_340000.out) hb)
        replace HO343 := am (Kd.R_below (rx HO343.out) hb)
        replace BK314 := am (bb hb (kx BK314.out))
        replace BK327 := am (bb hb (kx BK327.out))
        replace BK331 := am (bb hb (kx BK331.out))
        replace BK339 := am (bb hb (kx BK339.out))
        replace HB := am (below_step (zb4 HB.out GE314.out GE327.out GE331.out GE339.out) hb)
        try clear hb
        try clear hb2
        try clear hk
        try clear hi
        refine hK.out _ _ ⟨ct BK331.out 0, ct BK314.out 0⟩ (fun hHeld => ?_)
        clear hK K
        refine norm_ (a' := ?_) ?_ ?_
        rotate_left
        ·show Act.put _ (some 57) _ = _
         simp only [Act.put, List.setIfInBounds_toArray, List.set_cons_zero, List.set_cons_succ, i64_w, i32_w]
         rfl
        refine pure_ (i := 4) (N := some 58) (v := ?_) (a' := ?_) #[true, true, true, true, true] rfl rfl (by kernel_rfl) (fun _ _ _ h => h) (Or.inl ⟨by rfl, ?_⟩) ?_ ?_
        rotate_left
        ·intro w'
         go_simp
         with_reducible rfl
        rotate_left
        ·simp only [Act.put, List.setIfInBounds_toArray, List.set_cons_zero, List.set_cons_succ, i64_w, i32_w]
         rfl
        refine done_ (by kernel_rfl) ?_
        go_upto_region 21 with (first | ((with_reducible refine gate_callee (f := 18) rfl ?_); refine goesL_ (some 61) rfl rfl Try.func18 (by kernel_rfl) rfl #[.slice A1 l1.length c1] rfl zr ?_; (with_reducible refine (laws_toActS.calls kj19 _ _ l1 t345 _ ?side1 ?side2 A74.out).mono ?_); (case side1 => repeat (first | exact (Kd.C_below HR1.out HB.out) | (with_reducible refine Kd.C_alloc ?_ _) | (with_reducible refine Kd.C_drewN ?_ _) | (with_reducible refine Kd.C_drew ?_))); (case side2 => exact HC1.out); rintro e w84 ⟨v346, rfl, ho0, hb⟩; refine ⟨_, rfl, ?_⟩; have HO347 := am (Kd.R_lower (Kd.R_new' ho0 (Kd.R_lt (rx HO_9.out))) (below_size (zb4 HB.out GE314.out GE327.out GE331.out GE339.out))); replace HO_9 := am (Kd.R_elder' (rx HO_9.out) (Kd.R_base ho0) hb); replace HO_328000 := am (Kd.R_below (rx HO_328000.out) hb); replace HO_332000 := am (Kd.R_below (rx HO_332000.out) hb); replace HO_340000 := am (Kd.R_below (rx HO_340000.out) hb); replace HO343 := am (Kd.R_below (rx HO343.out) hb); replace BK314 := am (bb hb (kx BK314.out)); replace BK327 := am (bb hb (kx BK327.out)); replace BK331 := am (bb hb (kx BK331.out)); replace BK339 := am (bb hb (kx BK339.out)); replace HB := am (below_step (zb4 HB.out GE314.out GE327.out GE331.out GE339.out) hb); (try clear hb); (try clear hb2); (try clear hk); (try clear hi); (try clear ho0); obtain ⟨Ao85, co85, eo85⟩ := Kd.R_slice HO347.out; subst eo85) | ((with_reducible refine gate_callee (f := 20) rfl ?_); refine goesL_ (some 62) rfl rfl Try.func20 (by kernel_rfl) rfl #[.slice Ao44 t332.length co44, .slice Ao85 t345.length co85] rfl zr ?_; (with_reducible refine (laws_eqActS.calls kj19 _ _ t332 _ _ t345 true _ ?side1 ?side2 ?side3 ?side4 A75.out).mono ?_); (case side1 => repeat (first | exact (Kd.R_reads' HO_9.out).2.2 | (with_reducible refine Kd.C_alloc ?_ _) | (with_reducible refine Kd.C_drewN ?_ _) | (with_reducible refine Kd.C_drew ?_))); (case side2 => exact (Kd.R_reads' HO_9.out).2.1); (case side3 => repeat (first | exact (Kd.R_reads' HO347.out).2.2 | (with_reducible refine Kd.C_alloc ?_ _) | (with_reducible refine Kd.C_drewN ?_ _) | (with_reducible refine Kd.C_drew ?_))); (case side4 => exact (Kd.R_reads' HO347.out).2.1); rintro e w86 ⟨rfl, hb⟩; refine ⟨_, rfl, ?_⟩; replace HO_9 := am (Kd.R_below (rx HO_9.out) hb); replace HO_328000 := am (Kd.R_below (rx HO_328000.out) hb); replace HO_332000 := am (Kd.R_below (rx HO_332000.out) hb); replace HO_340000 := am (Kd.R_below (rx HO_340000.out) hb); replace HO343 := am (Kd.R_below (rx HO343.out) hb); replace HO347 := am (Kd.R_below (rx HO347.out) hb); replace BK314 := am (bb hb (kx BK314.out)); replace BK327 := am (bb hb (kx BK327.out)); replace BK331 := am (bb hb (kx BK331.out)); replace BK339 := am (bb hb (kx BK339.out)); replace HB := am (below_step (zb4 HB.out GE314.out GE327.out GE331.out GE339.out) hb); (try clear hb); (try clear hb2); (try clear hk); (try clear hi); have hnb87 := NB331_314.out; have hnc87 := NB314_331.out; have hnb88 := NB331_327.out; have hnc88 := NB327_331.out; have hnb89 := NB331_339.out; have hnc89 := NB339_331.out; obtain ⟨hcz90_0, hfz90_0⟩ := zc1 BK331.out) | ((with_reducible refine gate_callee (f := 14) rfl ?_); refine goesL_ (some 66) rfl rfl Try.func14 (by kernel_rfl) rfl #[.agg #[.slice Ao38 t328.length co38], .int .i64 1] rfl zr ?_; (with_reducible refine (laws_markDisk.calls kj19 (fun k_ => some k_ = (.slice Ao38 t328.length co38 : Value).ownBlock) (.slice Ao38 t328.length co38) t328 1 t349 t350 w _ ?side1 ?side2 A77.out).mono ?_); (case side1 => repeat (first | (with_reducible first | exact HB.out | apply below_alloc | apply pw_below_drewN | apply below_drew1 | refine below_set ?_ GE314.out | refine below_set ?_ GE327.out | refine below_set ?_ GE331.out | refine below_set ?_ GE339.out) | exact HB.out)); (case side2 => exact Kd.R_tight rfl HO_332000.out); rintro e w91 ⟨rfl, hy0, hb, hkp⟩; refine ⟨_, rfl, ?_⟩; replace HO_9 := am (Kd.R_mono (ok' := fun k_ => some k_ ≠ (.slice Ao85 t345.length co85 : Value).ownBlock) (Kd.R_keptB ((Kd.R_apart' HO_9.out (Kd.R_typed HO_332000.out) (by decide))) hkp (fun k_ hk_ hs_ => (hk_.2) hs_)) (fun k_ hk_ => hk_.1.1.2)); replace HO_328000 := am (Kd.R_mono (ok' := fun k_ => some k_ ≠ (.slice Ao38 t328.length co38 : Value).ownBlock ∧ some k_ ≠ (.slice Ao47 t335.length co47 : Value).ownBlock ∧ some k_ ≠ (.slice Ao82 t341.length co82 : Value).ownBlock) (Kd.R_keptB (HO_328000.out) hkp (fun k_ hk_ hs_ => (hk_.1.1) hs_)) (fun k_ hk_ => ⟨hk_.1.1.1, hk_.1.1.2, hk_.1.2⟩)); replace HO_340000 := am (Kd.R_mono (ok' := fun k_ => some k_ ≠ (.slice Ao32 t323.length co32 : Value).ownBlock ∧ some k_ ≠ (.slice Ao38 t328.length co38 : Value).ownBlock ∧ some k_ ≠ (.slice Ao82 t341.length co82 : Value).ownBlock) (Kd.R_keptB (HO_340000.out) hkp (fun k_ hk_ hs_ => (hk_.1.2) hs_)) (fun k_ hk_ => ⟨hk_.1.1.1, hk_.1.1.2, hk_.1.2⟩)); replace BK314 := am (blk_kept (kx BK314.out) hkp (fun hs_ => (fun e_ => (Kd.R_ne HO_332000.out BK314.out (by decide)) e_) hs_)); replace BK327 := am (blk_kept (kx BK327.out) hkp (fun hs_ => (fun e_ => (Kd.R_ne HO_332000.out BK327.out (by decide)) e_) hs_)); replace BK331 := am (blk_kept (kx BK331.out) hkp (fun hs_ => (fun e_ => (Kd.R_ne HO_332000.out BK331.out (by decide)) e_) hs_)); replace BK339 := am (blk_kept (kx BK339.out) hkp (fun hs_ => (fun e_ => (Kd.R_ne HO_332000.out BK339.out (by decide)) e_) hs_)); replace HO343 := am (Kd.R_mono (ok' := fun k_ => some k_ ≠ (.slice Ao32 t323.length co32 : Value).ownBlock ∧ some k_ ≠ (.slice Ao38 t328.length co38 : Value).ownBlock ∧ some k_ ≠ (.slice Ao47 t335.length co47 : Value).ownBlock) (Kd.R_keptB (HO343.out) hkp (fun k_ hk_ hs_ => (hk_.1.2) hs_)) (fun k_ hk_ => ⟨hk_.1.1.1.2, hk_.1.1.2, hk_.1.2⟩)); replace HO347 := am (Kd.R_mono (ok' := fun k_ => some k_ ≠ (.slice Ao44 t332.length co44 : Value).ownBlock) (Kd.R_keptB ((Kd.R_apart' HO347.out (Kd.R_typed HO_332000.out) (by decide))) hkp (fun k_ hk_ hs_ => (hk_.2) hs_)) (fun k_ hk_ => hk_.1.1.2)); replace HO_332000 := am (Kd.R_reok rfl hy0 (fun k_ e_ => HO_332000.out.1 k_ e_)); replace HB := am (hb); (try clear hb); (try clear hkp); (try clear hy0)) | ((with_reducible refine gate_callee (f := 21) rfl ?_); refine goesL_ (some 69) rfl rfl Try.func21 (by kernel_rfl) rfl #[.slice Ao44 t332.length co44, .int .i64 t349] rfl zr ?_; (with_reducible refine (laws_markActS.calls kj19 (fun k_ => some k_ = (.slice Ao44 t332.length co44 : Value).ownBlock) (.slice Ao44 t332.length co44) t332 t349 t351 t352 w _ ?side1 ?side2 A78.out).mono ?_); (case side1 => repeat (first | (with_reducible first | exact HB.out | apply below_alloc | apply pw_below_drewN | apply below_drew1 | refine below_set ?_ GE314.out | refine below_set ?_ GE327.out | refine below_set ?_ GE331.out | refine below_set ?_ GE339.out) | exact HB.out)); (case side2 => exact Kd.R_tight rfl HO_9.out); rintro e w92 ⟨rfl, hy0, hb, hkp⟩; refine ⟨_, rfl, ?_⟩; replace HO_328000 := am (Kd.R_mono (ok' := fun k_ => some k_ ≠ (.slice Ao38 t328.length co38 : Value).ownBlock ∧ some k_ ≠ (.slice Ao47 t335.length co47 : Value).ownBlock ∧ some k_ ≠ (.slice Ao82 t341.length co82 : Value).ownBlock) (Kd.R_keptB ((Kd.R_apart' HO_328000.out (Kd.R_typed HO_9.out) (by decide))) hkp (fun k_ hk_ hs_ => (hk_.2) hs_)) (fun k_ hk_ => ⟨hk_.1.1.1, hk_.1.1.2.1, hk_.1.1.2.2⟩)); replace HO_332000 := am (Kd.R_mono (ok' := fun k_ => some k_ ≠ (.slice Ao32 t323.length co32 : Value).ownBlock ∧ some k_ ≠ (.slice Ao47 t335.length co47 : Value).ownBlock ∧ some k_ ≠ (.slice Ao82 t341.length co82 : Value).ownBlock) (Kd.R_keptB ((Kd.R_apart' HO_332000.out (Kd.R_typed HO_9.out) (by decide))) hkp (fun k_ hk_ hs_ => (hk_.2) hs_)) (fun k_ hk_ => ⟨hk_.1.1.1.1, hk_.1.1.1.2, hk_.1.1.2⟩)); replace HO_340000 := am (Kd.R_mono (ok' := fun k_ => some k_ ≠ (.slice Ao32 t323.length co32 : Value).ownBlock ∧ some k_ ≠ (.slice Ao38 t328.length co38 : Value).ownBlock ∧ some k_ ≠ (.slice Ao82 t341.length co82 : Value).ownBlock) (Kd.R_keptB ((Kd.R_apart' HO_340000.out (Kd.R_typed HO_9.out) (by decide))) hkp (fun k_ hk_ hs_ => (hk_.2) hs_)) (fun k_ hk_ => ⟨hk_.1.1.1, hk_.1.1.2.1, hk_.1.1.2.2⟩)); replace BK314 := am (blk_kept (kx BK314.out) hkp (fun hs_ => (fun e_ => (Kd.R_ne HO_9.out BK314.out (by decide)) e_) hs_)); replace BK327 := am (blk_kept (kx BK327.out) hkp (fun hs_ => (fun e_ => (Kd.R_ne HO_9.out BK327.out (by decide)) e_) hs_)); replace BK331 := am (blk_kept (kx BK331.out) hkp (fun hs_ => (fun e_ => (Kd.R_ne HO_9.out BK331.out (by decide)) e_) hs_)); replace BK339 := am (blk_kept (kx BK339.out) hkp (fun hs_ => (fun e_ => (Kd.R_ne HO_9.out BK339.out (by decide)) e_) hs_)); replace HO343 := am (Kd.R_mono (ok' := fun k_ => some k_ ≠ (.slice Ao32 t323.length co32 : Value).ownBlock ∧ some k_ ≠ (.slice Ao38 t328.length co38 : Value).ownBlock ∧ some k_ ≠ (.slice Ao47 t335.length co47 : Value).ownBlock) (Kd.R_keptB ((Kd.R_apart' HO343.out (Kd.R_typed HO_9.out) (by decide))) hkp (fun k_ hk_ hs_ => (hk_.2) hs_)) (fun k_ hk_ => ⟨hk_.1.1.1, hk_.1.1.2.1, hk_.1.1.2.2⟩)); replace HO_9 := am (Kd.R_reok rfl hy0 (fun k_ e_ => HO_9.out.1 k_ e_)); replace HO347 := am (Kd.R_mono (ok' := fun k_ => some k_ ≠ (.slice Ao44 t332.length co44 : Value).ownBlock) (Kd.R_keptB (HO347.out) hkp (fun k_ hk_ hs_ => (hk_) hs_)) (fun k_ hk_ => hk_.1)); replace HB := am (hb); (try clear hb); (try clear hkp); (try clear hy0)))
        (try simp only [Act.put, List.setIfInBounds_toArray, List.set_cons_zero, List.set_cons_succ])
        go_cut [82] (fun v82 wc => ∃ (kq : Nat) (x82_78 : Bool), v82 = .bool x82_78 ∧ Aside0 (laws_FnExactDoActs.j1 kq l1 t326 x82_78 l0_0 t323 t335 = some r) ∧ Aside0 (kq ≤ kj19) ∧ Aside0 (Kd.R k66 66 wc w.heap.size (fun k_ => some k_ ≠ ((.slice Ao38 t328.length co38) : Value).ownBlock ∧ some k_ ≠ ((.slice Ao47 t335.length co47) : Value).ownBlock) (.slice Ao32 t323.length co32) t323) ∧ Aside0 (Kd.R k66 66 wc w.heap.size (fun k_ => some k_ ≠ ((.slice Ao32 t323.length co32) : Value).ownBlock ∧ some k_ ≠ ((.slice Ao47 t335.length co47) : Value).ownBlock) (.slice Ao38 t328.length co38) t350) ∧ Aside0 (Kd.R k66 66 wc w.heap.size (fun k_ => some k_ ≠ ((.slice Ao32 t323.length co32) : Value).ownBlock ∧ some k_ ≠ ((.slice Ao38 t328.length co38) : Value).ownBlock) (.slice Ao47 t335.length co47) t335) ∧ Aside0 (wc.heap[gb314]? = some (.cells #[(.slice A0_0 l0_0.length c0_0)] 24 (0, 0))) ∧ Aside0 (wc.heap[gb327]? = some (.cells #[(.slice Ao32 t323.length co32)] 31 (0, 0))) ∧ Aside0 (wc.heap[gb331]? = some (.cells #[(.slice Ao38 t328.length co38)] 31 (0, 0))) ∧ Aside0 (wc.heap[gb339]? = some (.cells #[(.slice Ao47 t335.length co47)] 31 (0, 0))) ∧ Aside0 (Below w.heap.size w wc))
        case first =>
         have H := HC79.out
         clear HC79
         by_cases c93 : t351 < 0
         ·rw [if_pos c93] at H
          have c93b0 : decide (t351 < 0) = true := decide_eq_true c93
          clear c93
          (first | rw [c93b0] | (simp only [i64_w, i32_w]; rw [c93b0]) | skip)
          have H' := Aside0.mk H
          clear H
          go_wp2
          go_meet
          case rel => exact ⟨_, (true), (by first | rfl | (simp; done) | (simp [*]; done)), H', ⟨by have := HJ19.out; first | omega | exact Nat.le_refl _⟩, ⟨rx (Kd.R_mono HO_328000.out (fun _ hk => ⟨hk.1, hk.2.1⟩))⟩, ⟨rx (Kd.R_mono HO_332000.out (fun _ hk => ⟨hk.1, hk.2.1⟩))⟩, ⟨rx (Kd.R_mono HO_340000.out (fun _ hk => ⟨hk.1, hk.2.1⟩))⟩, ⟨kx BK314.out⟩, ⟨kx BK327.out⟩, ⟨kx BK331.out⟩, ⟨kx BK339.out⟩, ⟨zb4 HB.out GE314.out GE327.out GE331.out GE339.out⟩⟩
         ·rw [if_neg c93] at H
          have c93b0 : decide (t351 < 0) = false := decide_eq_false c93
          clear c93
          (first | rw [c93b0] | (simp only [i64_w, i32_w]; rw [c93b0]) | skip)
          replace H := Option.bind_eq_some_iff.mp H
          obtain ⟨t353, A940, H⟩ := H
          try dsimp only at H
          have A94 := Aside0.mk A940
          clear A940
          by_cases c95 : t353 = true
          ·subst c95
           have H1 : (laws_FnExactDoActs.j1 kj19 l1 t326 (t338 != t326) l0_0 t323 t335) = some r := by rw [if_pos rfl] at H; exact H
           clear H
           have H := H1
           clear H1
           have H' := Aside0.mk H
           clear H
           have hnb96 := NB339_314.out
           have hnc96 := NB314_339.out
           have hnb97 := NB339_327.out
           have hnc97 := NB327_339.out
           have hnb98 := NB339_331.out
           have hnc98 := NB331_339.out
           obtain ⟨hcz99_0, hfz99_0⟩ := zc1 BK339.out
           have hnb100 := NB327_314.out
           have hnc100 := NB314_327.out
           have hnb101 := NB327_331.out
           have hnc101 := NB331_327.out
           obtain ⟨hcz102_0, hfz102_0⟩ := zc1 BK327.out
           go_wp2_with (first | (go_at_call 13; (with_reducible refine (laws_eqDisk.calls kj19 _ _ t335 _ _ t323 true _ ?side1 ?side2 ?side3 ?side4 A94.out).mono ?_); (case side1 => repeat (first | exact (Kd.R_reads' HO_340000.out).2.2 | (with_reducible refine Kd.C_alloc ?_ _) | (with_reducible refine Kd.C_drewN ?_ _) | (with_reducible refine Kd.C_drew ?_))); (case side2 => exact (Kd.R_reads' HO_340000.out).2.1); (case side3 => repeat (first | exact (Kd.R_reads' HO_328000.out).2.2 | (with_reducible refine Kd.C_alloc ?_ _) | (with_reducible refine Kd.C_drewN ?_ _) | (with_reducible refine Kd.C_drew ?_))); (case side4 => exact (Kd.R_reads' HO_328000.out).2.1); rintro e w103 ⟨rfl, hb⟩; replace HO_9 := am (Kd.R_below (rx HO_9.out) hb); replace HO_328000 := am (Kd.R_below (rx HO_328000.out) hb); replace HO_332000 := am (Kd.R_below (rx HO_332000.out) hb); replace HO_340000 := am (Kd.R_below (rx HO_340000.out) hb); replace HO343 := am (Kd.R_below (rx HO343.out) hb); replace HO347 := am (Kd.R_below (rx HO347.out) hb); replace BK314 := am (bb hb (kx BK314.out)); replace BK327 := am (bb hb (kx BK327.out)); replace BK331 := am (bb hb (kx BK331.out)); replace BK339 := am (bb hb (kx BK339.out)); replace HB := am (below_step (zb4 HB.out GE314.out GE327.out GE331.out GE339.out) hb); (try clear hb); (try clear hb2); (try clear hk); (try clear hi)))
           go_meet
           case rel => exact ⟨_, ((t338 != t326)), (by first | rfl | (simp; done) | (simp [*]; done)), H', ⟨by have := HJ19.out; first | omega | exact Nat.le_refl _⟩, ⟨rx (Kd.R_mono HO_328000.out (fun _ hk => ⟨hk.1, hk.2.1⟩))⟩, ⟨rx (Kd.R_mono HO_332000.out (fun _ hk => ⟨hk.1, hk.2.1⟩))⟩, ⟨rx (Kd.R_mono HO_340000.out (fun _ hk => ⟨hk.1, hk.2.1⟩))⟩, ⟨kx BK314.out⟩, ⟨kx BK327.out⟩, ⟨kx BK331.out⟩, ⟨kx BK339.out⟩, ⟨zb4 HB.out GE314.out GE327.out GE331.out GE339.out⟩⟩
          ·replace c95 := Bool.eq_false_iff.mpr c95
           subst c95
           have H1 : (laws_FnExactDoActs.j1 kj19 l1 t326 true l0_0 t323 t335) = some r := by rw [if_neg (show ¬ (false = true) by decide)] at H; exact H
           clear H
           have H := H1
           clear H1
           have H' := Aside0.mk H
           clear H
           have hnb104 := NB339_314.out
           have hnc104 := NB314_339.out
           have hnb105 := NB339_327.out
           have hnc105 := NB327_339.out
           have hnb106 := NB339_331.out
           have hnc106 := NB331_339.out
           obtain ⟨hcz107_0, hfz107_0⟩ := zc1 BK339.out
           have hnb108 := NB327_314.out
           have hnc108 := NB314_327.out
           have hnb109 := NB327_331.out
           have hnc109 := NB331_327.out
           obtain ⟨hcz110_0, hfz110_0⟩ := zc1 BK327.out
           go_wp2_with (first | (go_at_call 13; (with_reducible refine (laws_eqDisk.calls kj19 _ _ t335 _ _ t323 false _ ?side1 ?side2 ?side3 ?side4 A94.out).mono ?_); (case side1 => repeat (first | exact (Kd.R_reads' HO_340000.out).2.2 | (with_reducible refine Kd.C_alloc ?_ _) | (with_reducible refine Kd.C_drewN ?_ _) | (with_reducible refine Kd.C_drew ?_))); (case side2 => exact (Kd.R_reads' HO_340000.out).2.1); (case side3 => repeat (first | exact (Kd.R_reads' HO_328000.out).2.2 | (with_reducible refine Kd.C_alloc ?_ _) | (with_reducible refine Kd.C_drewN ?_ _) | (with_reducible refine Kd.C_drew ?_))); (case side4 => exact (Kd.R_reads' HO_328000.out).2.1); rintro e w111 ⟨rfl, hb⟩; replace HO_9 := am (Kd.R_below (rx HO_9.out) hb); replace HO_328000 := am (Kd.R_below (rx HO_328000.out) hb); replace HO_332000 := am (Kd.R_below (rx HO_332000.out) hb); replace HO_340000 := am (Kd.R_below (rx HO_340000.out) hb); replace HO343 := am (Kd.R_below (rx HO343.out) hb); replace HO347 := am (Kd.R_below (rx HO347.out) hb); replace BK314 := am (bb hb (kx BK314.out)); replace BK327 := am (bb hb (kx BK327.out)); replace BK331 := am (bb hb (kx BK331.out)); replace BK339 := am (bb hb (kx BK339.out)); replace HB := am (below_step (zb4 HB.out GE314.out GE327.out GE331.out GE339.out) hb); (try clear hb); (try clear hb2); (try clear hk); (try clear hi)))
           go_meet
           case rel => exact ⟨_, (true), (by first | rfl | (simp; done) | (simp [*]; done)), H', ⟨by have := HJ19.out; first | omega | exact Nat.le_refl _⟩, ⟨rx (Kd.R_mono HO_328000.out (fun _ hk => ⟨hk.1, hk.2.1⟩))⟩, ⟨rx (Kd.R_mono HO_332000.out (fun _ hk => ⟨hk.1, hk.2.1⟩))⟩, ⟨rx (Kd.R_mono HO_340000.out (fun _ hk => ⟨hk.1, hk.2.1⟩))⟩, ⟨kx BK314.out⟩, ⟨kx BK327.out⟩, ⟨kx BK331.out⟩, ⟨kx BK339.out⟩, ⟨zb4 HB.out GE314.out GE327.out GE331.out GE339.out⟩⟩
        case rest =>
         clear HC79
         try clear c1
         try clear c2
         try clear p2
         try clear c3
         try clear c4
         try clear c4b0
         try clear c5
         try clear c6
         try clear c7
         try clear c8
         try clear c9
         try clear c9b0
         try clear c10
         try clear c13
         try clear c14
         try clear c16
         try clear c17
         try clear c18
         try clear c19
         try clear c20
         try clear c21
         try clear c33
         try clear c39
         try clear c40
         try clear c48
         try clear c49
         try clear c50
         try clear c53
         try clear c54
         try clear c55
         try clear c56
         try clear c58
         try clear c59
         try clear c62
         try clear c63
         try clear c64
         try clear c66
         try clear c67
         try clear c70
         try clear c73
         try clear c76
         try clear c87
         try clear c88
         try clear c89
         try clear c93
         try clear c93b0
         try clear c95
         try clear c96
         try clear c97
         try clear c98
         try clear c100
         try clear c101
         try clear c104
         try clear c105
         try clear c106
         try clear c108
         try clear c109
         try clear hcz102_0
         try clear hcz107_0
         try clear hcz110_0
         try clear hcz11_0
         try clear hcz22_0
         try clear hcz25_0
         try clear hcz34_0
         try clear hcz35_0
         try clear hcz41_0
         try clear hcz43_0
         try clear hcz51_0
         try clear hcz57_0
         try clear hcz60_0
         try clear hcz65_0
         try clear hcz68_0
         try clear hcz6_0
         try clear hcz90_0
         try clear hcz99_0
         try clear hfz102_0
         try clear hfz107_0
         try clear hfz110_0
         try clear hfz11_0
         try clear hfz22_0
         try clear hfz25_0
         try clear hfz34_0
         try clear hfz35_0
         try clear hfz41_0
         try clear hfz43_0
         try clear hfz51_0
         try clear hfz57_0
         try clear hfz60_0
         try clear hfz65_0
         try clear hfz68_0
         try clear hfz6_0
         try clear hfz90_0
         try clear hfz99_0
         try clear p2
         obtain ⟨kq, x82_78, rfl, HA, HJ78, HO_328000, HO_332000, HO_340000, BK314, BK327, BK331, BK339, HB⟩ := hcut
         have hl332000_78 := (Kd.R_reads' HO_332000.out).1
         rw [hl332000_78] at HO_332000
         (try simp only [hl332000_78])
         (try simp only [hl332000_78] at BK314)
         (try simp only [hl332000_78] at BK327)
         (try simp only [hl332000_78] at BK331)
         (try simp only [hl332000_78] at BK339)
         (try simp only [hl332000_78] at HO_328000)
         (try simp only [hl332000_78] at HO_340000)
         cases kq with
         | zero => exact absurd HA.out (by simp [laws_FnExactDoActs.j1])
         | succ kj78 =>
          have H := HA.out
          clear HA
          simp only [laws_FnExactDoActs.j1] at H
          by_cases c112 : x82_78 = true
          ·subst c112
           have H1 : (some false) = some r := by rw [if_pos rfl] at H; exact H
           clear H
           have H := H1
           clear H1
           exact absurd ((Option.some.inj H).trans HLT.out) (by decide)
          ·replace c112 := Bool.eq_false_iff.mpr c112
           subst c112
           have H1 : ((laws_markDisk.f kj78 t335 1).bind fun bt354 => ((laws_heldDisk.f kj78 bt354.2 1).bind fun t356 => (if t356 < 0 then (some false) else (if t356 = bt354.1 then ((laws_toDisk.f kj78 l0_0).bind fun t357 => ((laws_toActS.f kj78 l1).bind fun t360 => ((impl_DoActs.f kj78 t357 t360).bind fun bt363 => ((laws_eqDisk.f kj78 bt363.1 t323).bind fun t368 => (if t368 = true then (laws_FnExactDoActs.j2 kj78 bt354.1 (bt363.2 != t326) bt354.2) else (laws_FnExactDoActs.j2 kj78 bt354.1 true bt354.2)))))) else (some false))))) = some r := by rw [if_neg (show ¬ (false = true) by decide)] at H; exact H
           clear H
           have H := H1
           clear H1
           replace H := Option.bind_eq_some_iff.mp H
           obtain ⟨⟨t354, t355⟩, A1130, H⟩ := H
           try dsimp only at H
           have A113 := Aside0.mk A1130
           clear A1130
           replace H := Option.bind_eq_some_iff.mp H
           obtain ⟨t356, A1140, H⟩ := H
           try dsimp only at H
           have A114 := Aside0.mk A1140
           clear A1140
           by_cases c115 : t356 < 0
           ·rw [if_pos c115] at H
            have c115b0 : decide (t356 < 0) = true := decide_eq_true c115
            clear c115
            exact absurd ((Option.some.inj H).trans HLT.out) (by decide)
           ·rw [if_neg c115] at H
            have c115b0 : decide (t356 < 0) = false := decide_eq_false c115
            clear c115
            by_cases c116 : t356 = t354
            ·rw [if_pos c116] at H
             have c116b0 : (t356 == t354) = true := beq_iff_eq.mpr c116
             have c116b1 : (t356 != t354) = false := bne_eq_false_iff_eq.mpr c116
             clear c116
             replace H := Option.bind_eq_some_iff.mp H
             obtain ⟨t357, A1170, H⟩ := H
             try dsimp only at H
             have A117 := Aside0.mk A1170
             clear A1170
             replace H := Option.bind_eq_some_iff.mp H
             obtain ⟨t360, A1180, H⟩ := H
             try dsimp only at H
             have A118 := Aside0.mk A1180
             clear A1180
             replace H := Option.bind_eq_some_iff.mp H
             obtain ⟨⟨t363, t366⟩, A1190, H⟩ := H
             try dsimp only at H
             have A119 := Aside0.mk A1190
             clear A1190
             have HC120 := Aside0.mk H
             clear H
             have hnb121 := NB339_314.out
             have hnc121 := NB314_339.out
             have hnb122 := NB339_327.out
             have hnc122 := NB327_339.out
             have hnb123 := NB339_331.out
             have hnc123 := NB331_339.out
             obtain ⟨hcz124_0, hfz124_0⟩ := zc1 BK339.out
             go_upto_region 32 with (first | ((with_reducible refine gate_callee (f := 14) rfl ?_); refine goesL_ (some 85) rfl rfl Try.func14 (by kernel_rfl) rfl #[.agg #[.slice Ao47 t335.length co47], .int .i64 1] rfl zr ?_; (with_reducible refine (laws_markDisk.calls kj78 (fun k_ => some k_ = (.slice Ao47 t335.length co47 : Value).ownBlock) (.slice Ao47 t335.length co47) t335 1 t354 t355 w _ ?side1 ?side2 A113.out).mono ?_); (case side1 => repeat (first | (with_reducible first | exact HB.out | apply below_alloc | apply pw_below_drewN | apply below_drew1 | refine below_set ?_ GE314.out | refine below_set ?_ GE327.out | refine below_set ?_ GE331.out | refine below_set ?_ GE339.out) | exact HB.out)); (case side2 => exact Kd.R_tight rfl HO_340000.out); rintro e w125 ⟨rfl, hy0, hb, hkp⟩; refine ⟨_, rfl, ?_⟩; replace HO_328000 := am (Kd.R_mono (ok' := fun k_ => some k_ ≠ (.slice Ao38 t350.length co38 : Value).ownBlock ∧ some k_ ≠ (.slice Ao47 t335.length co47 : Value).ownBlock) (Kd.R_keptB (HO_328000.out) hkp (fun k_ hk_ hs_ => (hk_.2) hs_)) (fun k_ hk_ => ⟨hk_.1.1, hk_.1.2⟩)); replace HO_332000 := am (Kd.R_mono (ok' := fun k_ => some k_ ≠ (.slice Ao32 t323.length co32 : Value).ownBlock ∧ some k_ ≠ (.slice Ao47 t335.length co47 : Value).ownBlock) (Kd.R_keptB (HO_332000.out) hkp (fun k_ hk_ hs_ => (hk_.2) hs_)) (fun k_ hk_ => ⟨hk_.1.1, hk_.1.2⟩)); replace BK314 := am (blk_kept (kx BK314.out) hkp (fun hs_ => (fun e_ => (Kd.R_ne HO_340000.out BK314.out (by decide)) e_) hs_)); replace BK327 := am (blk_kept (kx BK327.out) hkp (fun hs_ => (fun e_ => (Kd.R_ne HO_340000.out BK327.out (by decide)) e_) hs_)); replace BK331 := am (blk_kept (kx BK331.out) hkp (fun hs_ => (fun e_ => (Kd.R_ne HO_340000.out BK331.out (by decide)) e_) hs_)); replace BK339 := am (blk_kept (kx BK339.out) hkp (fun hs_ => (fun e_ => (Kd.R_ne HO_340000.out BK339.out (by decide)) e_) hs_)); replace HO_340000 := am (Kd.R_reok rfl hy0 (fun k_ e_ => HO_340000.out.1 k_ e_)); replace HB := am (hb); (try clear hb); (try clear hkp); (try clear hy0); obtain ⟨hcz126_0, hfz126_0⟩ := zc1 BK339.out) | ((with_reducible refine gate_callee (f := 15) rfl ?_); refine goesL_ (some 88) rfl rfl Try.func15 (by kernel_rfl) rfl #[.agg #[.slice Ao47 t355.length co47], .int .i64 1] rfl (by (try simp only [List.map_toArray, List.map_cons, List.map_nil]); first | done | (rw [show t355.length = t335.length from (Kd.R_reads' HO_340000.out).1.symm] <;> rfl) | rfl | (simp only [List.length_drop, List.length_take]; rfl)) ?_; (with_reducible refine (laws_heldDisk.calls kj78 _ _ t355 1 t356 _ ?side1 ?side2 A114.out).mono ?_); (case side1 => repeat (first | exact (Kd.R_reads' HO_340000.out).2.2 | (with_reducible refine Kd.C_alloc ?_ _) | (with_reducible refine Kd.C_drewN ?_ _) | (with_reducible refine Kd.C_drew ?_))); (case side2 => rw [show t355.length = t335.length from (Kd.R_reads' HO_340000.out).1.symm]; exact (Kd.R_reads' HO_340000.out).2.1); rintro e w127 ⟨rfl, hb⟩; refine ⟨_, rfl, ?_⟩; replace HO_328000 := am (Kd.R_below (rx HO_328000.out) hb); replace HO_332000 := am (Kd.R_below (rx HO_332000.out) hb); replace HO_340000 := am (Kd.R_below (rx HO_340000.out) hb); replace BK314 := am (bb hb (kx BK314.out)); replace BK327 := am (bb hb (kx BK327.out)); replace BK331 := am (bb hb (kx BK331.out)); replace BK339 := am (bb hb (kx BK339.out)); replace HB := am (below_step (zb4 HB.out GE314.out GE327.out GE331.out GE339.out) hb); (try clear hb); (try clear hb2); (try clear hk); (try clear hi); have hnb128 := NB314_327.out; have hnc128 := NB327_314.out; have hnb129 := NB314_331.out; have hnc129 := NB331_314.out; obtain ⟨hcz130_0, hfz130_0⟩ := zc1 BK314.out) | ((with_reducible refine gate_callee (f := 10) rfl ?_); refine goesL_ (some 96) rfl rfl Try.func10 (by kernel_rfl) rfl #[.agg #[.slice A0_0 l0_0.length c0_0]] rfl zr ?_; (with_reducible refine (laws_toDisk.calls kj78 _ _ l0_0 t357 _ ?side1 ?side2 A117.out).mono ?_); (case side1 => repeat (first | exact (Kd.C_below HR0_0.out HB.out) | (with_reducible refine Kd.C_alloc ?_ _) | (with_reducible refine Kd.C_drewN ?_ _) | (with_reducible refine Kd.C_drew ?_))); (case side2 => exact HC0_0.out); rintro e w131 ⟨v358, rfl, ho0, hb⟩; refine ⟨_, rfl, ?_⟩; have HO359 := am (Kd.R_lower (Kd.R_new' (Kd.R_new' (Kd.R_new' ho0 (Kd.R_lt (rx HO_328000.out))) (Kd.R_lt (rx HO_332000.out))) (Kd.R_lt (rx HO_340000.out))) (below_size (zb4 HB.out GE314.out GE327.out GE331.out GE339.out))); replace HO_328000 := am (Kd.R_elder' (rx HO_328000.out) (Kd.R_base ho0) hb); replace HO_332000 := am (Kd.R_elder' (rx HO_332000.out) (Kd.R_base ho0) hb); replace HO_340000 := am (Kd.R_elder' (rx HO_340000.out) (Kd.R_base ho0) hb); replace BK314 := am (bb hb (kx BK314.out)); replace BK327 := am (bb hb (kx BK327.out)); replace BK331 := am (bb hb (kx BK331.out)); replace BK339 := am (bb hb (kx BK339.out)); replace HB := am (below_step (zb4 HB.out GE314.out GE327.out GE331.out GE339.out) hb); (try clear hb); (try clear hb2); (try clear hk); (try clear hi); (try clear ho0)) | ((with_reducible refine gate_callee (f := 18) rfl ?_); refine goesL_ (some 98) rfl rfl Try.func18 (by kernel_rfl) rfl #[.slice A1 l1.length c1] rfl zr ?_; (with_reducible refine (laws_toActS.calls kj78 _ _ l1 t360 _ ?side1 ?side2 A118.out).mono ?_); (case side1 => repeat (first | exact (Kd.C_below HR1.out HB.out) | (with_reducible refine Kd.C_alloc ?_ _) | (with_reducible refine Kd.C_drewN ?_ _) | (with_reducible refine Kd.C_drew ?_))); (case side2 => exact HC1.out); rintro e w132 ⟨v361, rfl, ho0, hb⟩; refine ⟨_, rfl, ?_⟩; have HO362 := am (Kd.R_lower ho0 (below_size (zb4 HB.out GE314.out GE327.out GE331.out GE339.out))); replace HO_328000 := am (Kd.R_below (rx HO_328000.out) hb); replace HO_332000 := am (Kd.R_below (rx HO_332000.out) hb); replace HO_340000 := am (Kd.R_below (rx HO_340000.out) hb); replace HO359 := am (Kd.R_below (rx HO359.out) hb); replace BK314 := am (bb hb (kx BK314.out)); replace BK327 := am (bb hb (kx BK327.out)); replace BK331 := am (bb hb (kx BK331.out)); replace BK339 := am (bb hb (kx BK339.out)); replace HB := am (below_step (zb4 HB.out GE314.out GE327.out GE331.out GE339.out) hb); (try clear hb); (try clear hb2); (try clear hk); (try clear hi); (try clear ho0); obtain ⟨Ao133, co133, eo133⟩ := Kd.R_slice HO359.out; subst eo133; obtain ⟨Ao134, co134, eo134⟩ := Kd.R_slice HO362.out; subst eo134) | ((with_reducible refine gate_callee (f := 19) rfl ?_); refine goesL_ (some 99) rfl rfl Try.func19 (by kernel_rfl) rfl #[.agg #[.slice Ao133 t357.length co133], .slice Ao134 t360.length co134] rfl zr ?_; (with_reducible refine (impl_DoActs.calls kj78 _ _ t357 _ _ t360 t363 t366 _ ?side1 ?side2 ?side3 ?side4 A119.out).mono ?_); (case side1 => repeat (first | exact (Kd.R_reads' HO359.out).2.2 | (with_reducible refine Kd.C_alloc ?_ _) | (with_reducible refine Kd.C_drewN ?_ _) | (with_reducible refine Kd.C_drew ?_))); (case side2 => exact (Kd.R_reads' HO359.out).2.1); (case side3 => repeat (first | exact (Kd.R_reads' HO362.out).2.2 | (with_reducible refine Kd.C_alloc ?_ _) | (with_reducible refine Kd.C_drewN ?_ _) | (with_reducible refine Kd.C_drew ?_))); (case side4 => exact (Kd.R_reads' HO362.out).2.1); rintro e w135 ⟨v364, rfl, ho0, hb⟩; refine ⟨_, rfl, ?_⟩; have HO365 := am (Kd.R_lower (Kd.R_new' (Kd.R_new' (Kd.R_new' (Kd.R_new' ho0 (Kd.R_lt (rx HO_328000.out))) (Kd.R_lt (rx HO_332000.out))) (Kd.R_lt (rx HO_340000.out))) (Kd.R_lt (rx HO359.out))) (below_size (zb4 HB.out GE314.out GE327.out GE331.out GE339.out))); replace HO_328000 := am (Kd.R_elder' (rx HO_328000.out) (Kd.R_base ho0) hb); replace HO_332000 := am (Kd.R_elder' (rx HO_332000.out) (Kd.R_base ho0) hb); replace HO_340000 := am (Kd.R_elder' (rx HO_340000.out) (Kd.R_base ho0) hb); replace HO359 := am (Kd.R_elder' (rx HO359.out) (Kd.R_base ho0) hb); replace HO362 := am (Kd.R_below (rx HO362.out) hb); replace BK314 := am (bb hb (kx BK314.out)); replace BK327 := am (bb hb (kx BK327.out)); replace BK331 := am (bb hb (kx BK331.out)); replace BK339 := am (bb hb (kx BK339.out)); replace HB := am (below_step (zb4 HB.out GE314.out GE327.out GE331.out GE339.out) hb); (try clear hb); (try clear hb2); (try clear hk); (try clear hi); (try clear ho0)) | ((with_reducible refine gate_dst (N := 15) rfl ?_); refine box_event ?hg (N := 15) ?hd (cs := #[.slice none 0 0]) (t := 31) ?hr ?_; (case hd => rfl); (case hg => rfl); (case hr => first | (go_simp; done) | (go_simp; rfl)); intro gb367 hg w136 hbox hb; have BK367 := am (hbox); have GW367 := zge hg (zb4 HB.out GE314.out GE327.out GE331.out GE339.out); have GE367 := zge hg (zb4 HB.out GE314.out GE327.out GE331.out GE339.out); have NB314_367 := znl hg (kx BK314.out); have NB367_314 := zng hg (kx BK314.out); have NB327_367 := znl hg (kx BK327.out); have NB367_327 := zng hg (kx BK327.out); have NB331_367 := znl hg (kx BK331.out); have NB367_331 := zng hg (kx BK331.out); have NB339_367 := znl hg (kx BK339.out); have NB367_339 := zng hg (kx BK339.out); replace HO_328000 := am (Kd.R_below (rx HO_328000.out) hb); replace HO_332000 := am (Kd.R_below (rx HO_332000.out) hb); replace HO_340000 := am (Kd.R_below (rx HO_340000.out) hb); replace HO359 := am (Kd.R_below (rx HO359.out) hb); replace HO362 := am (Kd.R_below (rx HO362.out) hb); replace HO365 := am (Kd.R_below (rx HO365.out) hb); replace BK314 := am (bb hb (kx BK314.out)); replace BK327 := am (bb hb (kx BK327.out)); replace BK331 := am (bb hb (kx BK331.out)); replace BK339 := am (bb hb (kx BK339.out)); replace HB := am (below_step (zb4 HB.out GE314.out GE327.out GE331.out GE339.out) hb); clear hb hbox hg; obtain ⟨Ao137, co137, eo137⟩ := Kd.R_slice HO365.out; subst eo137; have hnb138 := NB367_314.out; have hnc138 := NB314_367.out; have hnb139 := NB367_327.out; have hnc139 := NB327_367.out; have hnb140 := NB367_331.out; have hnc140 := NB331_367.out; have hnb141 := NB367_339.out; have hnc141 := NB339_367.out; obtain ⟨hcz142_0, hfz142_0⟩ := zc1 BK367.out))
             (try simp only [Act.put, List.setIfInBounds_toArray, List.set_cons_zero, List.set_cons_succ])
             go_cut [110] (fun v110 wc => ∃ (kq : Nat) (x110_119 : Bool), v110 = .bool x110_119 ∧ Aside0 (laws_FnExactDoActs.j2 kq t354 x110_119 t355 = some r) ∧ Aside0 (kq ≤ kj78) ∧ Aside0 (Kd.R k66 66 wc w.heap.size (fun k_ => some k_ ≠ ((.slice Ao38 t350.length co38) : Value).ownBlock ∧ some k_ ≠ ((.slice Ao47 t335.length co47) : Value).ownBlock ∧ some k_ ≠ ((.slice Ao137 t363.length co137) : Value).ownBlock) (.slice Ao32 t323.length co32) t323) ∧ Aside0 (Kd.R k66 66 wc w.heap.size (fun k_ => some k_ ≠ ((.slice Ao32 t323.length co32) : Value).ownBlock ∧ some k_ ≠ ((.slice Ao47 t335.length co47) : Value).ownBlock ∧ some k_ ≠ ((.slice Ao137 t363.length co137) : Value).ownBlock) (.slice Ao38 t350.length co38) t350) ∧ Aside0 (Kd.R k66 66 wc w.heap.size (fun k_ => some k_ ≠ ((.slice Ao32 t323.length co32) : Value).ownBlock ∧ some k_ ≠ ((.slice Ao38 t350.length co38) : Value).ownBlock ∧ some k_ ≠ ((.slice Ao137 t363.length co137) : Value).ownBlock) (.slice Ao47 t335.length co47) t355) ∧ Aside0 (Kd.R k66 66 wc w.heap.size (fun k_ => some k_ ≠ ((.slice Ao32 t323.length co32) : Value).ownBlock ∧ some k_ ≠ ((.slice Ao38 t350.length co38) : Value).ownBlock ∧ some k_ ≠ ((.slice Ao47 t335.length co47) : Value).ownBlock) (.slice Ao137 t363.length co137) t363) ∧ Aside0 (wc.heap[gb314]? = some (.cells #[(.slice A0_0 l0_0.length c0_0)] 24 (0, 0))) ∧ Aside0 (wc.heap[gb327]? = some (.cells #[(.slice Ao32 t323.length co32)] 31 (0, 0))) ∧ Aside0 (wc.heap[gb331]? = some (.cells #[(.slice Ao38 t350.length co38)] 31 (0, 0))) ∧ Aside0 (wc.heap[gb339]? = some (.cells #[(.slice Ao47 t335.length co47)] 31 (0, 0))) ∧ Aside0 (wc.heap[gb367]? = some (.cells #[(.slice Ao137 t363.length co137)] 31 (0, 0))) ∧ Aside0 (Below w.heap.size w wc))
             case first =>
              have H := HC120.out
              clear HC120
              replace H := Option.bind_eq_some_iff.mp H
              obtain ⟨t368, A1430, H⟩ := H
              try dsimp only at H
              have A143 := Aside0.mk A1430
              clear A1430
              by_cases c144 : t368 = true
              ·subst c144
               have H1 : (laws_FnExactDoActs.j2 kj78 t354 (t366 != t326) t355) = some r := by rw [if_pos rfl] at H; exact H
               clear H
               have H := H1
               clear H1
               have H' := Aside0.mk H
               clear H
               have hnb145 := NB367_314.out
               have hnc145 := NB314_367.out
               have hnb146 := NB367_327.out
               have hnc146 := NB327_367.out
               have hnb147 := NB367_331.out
               have hnc147 := NB331_367.out
               have hnb148 := NB367_339.out
               have hnc148 := NB339_367.out
               obtain ⟨hcz149_0, hfz149_0⟩ := zc1 BK367.out
               have hnb150 := NB327_314.out
               have hnc150 := NB314_327.out
               have hnb151 := NB327_331.out
               have hnc151 := NB331_327.out
               have hnb152 := NB327_339.out
               have hnc152 := NB339_327.out
               obtain ⟨hcz153_0, hfz153_0⟩ := zc1 BK327.out
               go_wp2_with (first | ((with_reducible refine gate_callee (f := 13) rfl ?_); refine goesL_ (some 104) rfl rfl Try.func13 (by kernel_rfl) rfl #[.agg #[.slice Ao137 t363.length co137], .agg #[.slice Ao32 t323.length co32]] rfl zr ?_; (with_reducible refine (laws_eqDisk.calls kj78 _ _ t363 _ _ t323 true _ ?side1 ?side2 ?side3 ?side4 A143.out).mono ?_); (case side1 => refine (Kd.R_reads' (e := 66) (base := w.heap.size) (ok := fun k_ => ((((True ∧ some k_ ≠ (.slice Ao32 t323.length co32 : Value).ownBlock) ∧ some k_ ≠ (.slice Ao38 t350.length co38 : Value).ownBlock) ∧ some k_ ≠ (.slice Ao47 t335.length co47 : Value).ownBlock) ∧ some k_ ≠ (.slice Ao133 t357.length co133 : Value).ownBlock)) (n := t363.length) (c := co137) ?_).2.2; exact (rx ((Kd.R_mono (Kd.R_far (p := ⟨gb367, 0, none⟩) (Kd.R_types HO365.out BK367.out (by decide)) (fun _ hk => hk.2) (.slice Ao137 t363.length co137)) (fun _ h_ => h_.1))))); (case side2 => exact (Kd.R_reads' HO365.out).2.1); (case side3 => refine (Kd.R_reads' (e := 66) (base := w.heap.size) (ok := fun k_ => (((some k_ ≠ (.slice Ao38 t350.length co38 : Value).ownBlock ∧ some k_ ≠ (.slice Ao47 t335.length co47 : Value).ownBlock) ∧ some k_ ≠ (.slice Ao133 t357.length co133 : Value).ownBlock) ∧ some k_ ≠ (.slice Ao137 t363.length co137 : Value).ownBlock)) (n := t323.length) (c := co32) ?_).2.2; exact (rx ((Kd.R_mono (Kd.R_far (p := ⟨gb367, 0, none⟩) (Kd.R_types HO_328000.out BK367.out (by decide)) (fun _ hk => hk.2) (.slice Ao137 t363.length co137)) (fun _ h_ => h_.1))))); (case side4 => exact (Kd.R_reads' HO_328000.out).2.1); rintro e w154 ⟨rfl, hb⟩; refine ⟨_, rfl, ?_⟩; replace HO_328000 := am (Kd.R_below (rx ((Kd.R_mono (Kd.R_far (p := ⟨gb367, 0, none⟩) (Kd.R_types HO_328000.out BK367.out (by decide)) (fun _ hk => hk.2) (.slice Ao137 t363.length co137)) (fun _ h_ => h_.1)))) hb); replace HO_332000 := am (Kd.R_below (rx ((Kd.R_mono (Kd.R_far (p := ⟨gb367, 0, none⟩) (Kd.R_types HO_332000.out BK367.out (by decide)) (fun _ hk => hk.2) (.slice Ao137 t363.length co137)) (fun _ h_ => h_.1)))) hb); replace HO_340000 := am (Kd.R_below (rx ((Kd.R_mono (Kd.R_far (p := ⟨gb367, 0, none⟩) (Kd.R_types HO_340000.out BK367.out (by decide)) (fun _ hk => hk.2) (.slice Ao137 t363.length co137)) (fun _ h_ => h_.1)))) hb); replace HO359 := am (Kd.R_below (rx ((Kd.R_mono (Kd.R_far (p := ⟨gb367, 0, none⟩) (Kd.R_types HO359.out BK367.out (by decide)) (fun _ hk => hk.2) (.slice Ao137 t363.length co137)) (fun _ h_ => h_.1)))) hb); replace HO362 := am (Kd.R_below (rx ((Kd.R_mono (Kd.R_far (p := ⟨gb367, 0, none⟩) (Kd.R_types HO362.out BK367.out (by decide)) (fun _ hk => hk.2) (.slice Ao137 t363.length co137)) (fun _ h_ => h_.1)))) hb); replace HO365 := am (Kd.R_below (rx ((Kd.R_mono (Kd.R_far (p := ⟨gb367, 0, none⟩) (Kd.R_types HO365.out BK367.out (by decide)) (fun _ hk => hk.2) (.slice Ao137 t363.length co137)) (fun _ h_ => h_.1)))) hb); replace BK314 := am (bb hb (zf1 BK314.out NB314_367.out)); replace BK327 := am (bb hb (zf1 BK327.out NB327_367.out)); replace BK331 := am (bb hb (zf1 BK331.out NB331_367.out)); replace BK339 := am (bb hb (zf1 BK339.out NB339_367.out)); replace BK367 := am (blk_below (g := gb367) (o := .cells #[.slice Ao137 t363.length co137] 31 (0, 0)) (by (with_reducible repeat (first | refine blk_drewN ?_ _ | refine blk_drew ?_ | refine blk_alloc ?_ _)); refine blk_put (cs := #[.slice none 0 0]) ?_ 0 _ rfl; (with_reducible repeat (first | refine blk_drewN ?_ _ | refine blk_drew ?_ | refine blk_alloc ?_ _)); exact BK367.out) hb); replace HB := am (below_step (zb5 HB.out GE314.out GE327.out GE331.out GE339.out GE367.out) hb); (try clear hb); (try clear hb2); (try clear hk); (try clear hi)))
               go_meet
               case rel => exact ⟨_, ((t366 != t326)), (by first | rfl | (simp; done) | (simp [*]; done)), H', ⟨by have := HJ19.out; have := HJ78.out; first | omega | exact Nat.le_refl _⟩, ⟨by (try simp only [hl332000_78]); (with_reducible repeat (first | apply Kd.R_alloc | apply Kd.R_drewN | apply Kd.R_drew)); exact Kd.R_mono HO_328000.out (fun _ hk => ⟨hk.1.1.1, ⟨hk.1.1.2, hk.2⟩⟩)⟩, ⟨by (try simp only [hl332000_78]); (with_reducible repeat (first | apply Kd.R_alloc | apply Kd.R_drewN | apply Kd.R_drew)); exact Kd.R_mono HO_332000.out (fun _ hk => ⟨hk.1.1.1, ⟨hk.1.1.2, hk.2⟩⟩)⟩, ⟨by (try simp only [hl332000_78]); (with_reducible repeat (first | apply Kd.R_alloc | apply Kd.R_drewN | apply Kd.R_drew)); exact Kd.R_mono HO_340000.out (fun _ hk => ⟨hk.1.1.1, ⟨hk.1.1.2, hk.2⟩⟩)⟩, ⟨by (try simp only [hl332000_78]); (with_reducible repeat (first | apply Kd.R_alloc | apply Kd.R_drewN | apply Kd.R_drew)); exact Kd.R_mono HO365.out (fun _ hk => ⟨hk.1.1.1.2, ⟨hk.1.1.2, hk.1.2⟩⟩)⟩, ⟨by (try simp only [hl332000_78]); (with_reducible repeat (first | refine blk_drewN ?_ _ | refine blk_drew ?_ | refine blk_alloc ?_ _)); exact BK314.out⟩, ⟨by (try simp only [hl332000_78]); (with_reducible repeat (first | refine blk_drewN ?_ _ | refine blk_drew ?_ | refine blk_alloc ?_ _)); exact BK327.out⟩, ⟨by (try simp only [hl332000_78]); (with_reducible repeat (first | refine blk_drewN ?_ _ | refine blk_drew ?_ | refine blk_alloc ?_ _)); exact BK331.out⟩, ⟨by (try simp only [hl332000_78]); (with_reducible repeat (first | refine blk_drewN ?_ _ | refine blk_drew ?_ | refine blk_alloc ?_ _)); exact BK339.out⟩, ⟨by (try simp only [hl332000_78]); (with_reducible repeat (first | refine blk_drewN ?_ _ | refine blk_drew ?_ | refine blk_alloc ?_ _)); exact BK367.out⟩, ⟨zb5 HB.out GE314.out GE327.out GE331.out GE339.out GE367.out⟩⟩
              ·replace c144 := Bool.eq_false_iff.mpr c144
               subst c144
               have H1 : (laws_FnExactDoActs.j2 kj78 t354 true t355) = some r := by rw [if_neg (show ¬ (false = true) by decide)] at H; exact H
               clear H
               have H := H1
               clear H1
               have H' := Aside0.mk H
               clear H
               have hnb155 := NB367_314.out
               have hnc155 := NB314_367.out
               have hnb156 := NB367_327.out
               have hnc156 := NB327_367.out
               have hnb157 := NB367_331.out
               have hnc157 := NB331_367.out
               have hnb158 := NB367_339.out
               have hnc158 := NB339_367.out
               obtain ⟨hcz159_0, hfz159_0⟩ := zc1 BK367.out
               have hnb160 := NB327_314.out
               have hnc160 := NB314_327.out
               have hnb161 := NB327_331.out
               have hnc161 := NB331_327.out
               have hnb162 := NB327_339.out
               have hnc162 := NB339_327.out
               obtain ⟨hcz163_0, hfz163_0⟩ := zc1 BK327.out
               go_wp2_with (first | ((with_reducible refine gate_callee (f := 13) rfl ?_); refine goesL_ (some 104) rfl rfl Try.func13 (by kernel_rfl) rfl #[.agg #[.slice Ao137 t363.length co137], .agg #[.slice Ao32 t323.length co32]] rfl zr ?_; (with_reducible refine (laws_eqDisk.calls kj78 _ _ t363 _ _ t323 false _ ?side1 ?side2 ?side3 ?side4 A143.out).mono ?_); (case side1 => refine (Kd.R_reads' (e := 66) (base := w.heap.size) (ok := fun k_ => ((((True ∧ some k_ ≠ (.slice Ao32 t323.length co32 : Value).ownBlock) ∧ some k_ ≠ (.slice Ao38 t350.length co38 : Value).ownBlock) ∧ some k_ ≠ (.slice Ao47 t335.length co47 : Value).ownBlock) ∧ some k_ ≠ (.slice Ao133 t357.length co133 : Value).ownBlock)) (n := t363.length) (c := co137) ?_).2.2; exact (rx ((Kd.R_mono (Kd.R_far (p := ⟨gb367, 0, none⟩) (Kd.R_types HO365.out BK367.out (by decide)) (fun _ hk => hk.2) (.slice Ao137 t363.length co137)) (fun _ h_ => h_.1))))); (case side2 => exact (Kd.R_reads' HO365.out).2.1); (case side3 => refine (Kd.R_reads' (e := 66) (base := w.heap.size) (ok := fun k_ => (((some k_ ≠ (.slice Ao38 t350.length co38 : Value).ownBlock ∧ some k_ ≠ (.slice Ao47 t335.length co47 : Value).ownBlock) ∧ some k_ ≠ (.slice Ao133 t357.length co133 : Value).ownBlock) ∧ some k_ ≠ (.slice Ao137 t363.length co137 : Value).ownBlock)) (n := t323.length) (c := co32) ?_).2.2; exact (rx ((Kd.R_mono (Kd.R_far (p := ⟨gb367, 0, none⟩) (Kd.R_types HO_328000.out BK367.out (by decide)) (fun _ hk => hk.2) (.slice Ao137 t363.length co137)) (fun _ h_ => h_.1))))); (case side4 => exact (Kd.R_reads' HO_328000.out).2.1); rintro e w164 ⟨rfl, hb⟩; refine ⟨_, rfl, ?_⟩; replace HO_328000 := am (Kd.R_below (rx ((Kd.R_mono (Kd.R_far (p := ⟨gb367, 0, none⟩) (Kd.R_types HO_328000.out BK367.out (by decide)) (fun _ hk => hk.2) (.slice Ao137 t363.length co137)) (fun _ h_ => h_.1)))) hb); replace HO_332000 := am (Kd.R_below (rx ((Kd.R_mono (Kd.R_far (p := ⟨gb367, 0, none⟩) (Kd.R_types HO_332000.out BK367.out (by decide)) (fun _ hk => hk.2) (.slice Ao137 t363.length co137)) (fun _ h_ => h_.1)))) hb); replace HO_340000 := am (Kd.R_below (rx ((Kd.R_mono (Kd.R_far (p := ⟨gb367, 0, none⟩) (Kd.R_types HO_340000.out BK367.out (by decide)) (fun _ hk => hk.2) (.slice Ao137 t363.length co137)) (fun _ h_ => h_.1)))) hb); replace HO359 := am (Kd.R_below (rx ((Kd.R_mono (Kd.R_far (p := ⟨gb367, 0, none⟩) (Kd.R_types HO359.out BK367.out (by decide)) (fun _ hk => hk.2) (.slice Ao137 t363.length co137)) (fun _ h_ => h_.1)))) hb); replace HO362 := am (Kd.R_below (rx ((Kd.R_mono (Kd.R_far (p := ⟨gb367, 0, none⟩) (Kd.R_types HO362.out BK367.out (by decide)) (fun _ hk => hk.2) (.slice Ao137 t363.length co137)) (fun _ h_ => h_.1)))) hb); replace HO365 := am (Kd.R_below (rx ((Kd.R_mono (Kd.R_far (p := ⟨gb367, 0, none⟩) (Kd.R_types HO365.out BK367.out (by decide)) (fun _ hk => hk.2) (.slice Ao137 t363.length co137)) (fun _ h_ => h_.1)))) hb); replace BK314 := am (bb hb (zf1 BK314.out NB314_367.out)); replace BK327 := am (bb hb (zf1 BK327.out NB327_367.out)); replace BK331 := am (bb hb (zf1 BK331.out NB331_367.out)); replace BK339 := am (bb hb (zf1 BK339.out NB339_367.out)); replace BK367 := am (blk_below (g := gb367) (o := .cells #[.slice Ao137 t363.length co137] 31 (0, 0)) (by (with_reducible repeat (first | refine blk_drewN ?_ _ | refine blk_drew ?_ | refine blk_alloc ?_ _)); refine blk_put (cs := #[.slice none 0 0]) ?_ 0 _ rfl; (with_reducible repeat (first | refine blk_drewN ?_ _ | refine blk_drew ?_ | refine blk_alloc ?_ _)); exact BK367.out) hb); replace HB := am (below_step (zb5 HB.out GE314.out GE327.out GE331.out GE339.out GE367.out) hb); (try clear hb); (try clear hb2); (try clear hk); (try clear hi)))
               go_meet
               case rel => exact ⟨_, (true), (by first | rfl | (simp; done) | (simp [*]; done)), H', ⟨by have := HJ19.out; have := HJ78.out; first | omega | exact Nat.le_refl _⟩, ⟨by (try simp only [hl332000_78]); (with_reducible repeat (first | apply Kd.R_alloc | apply Kd.R_drewN | apply Kd.R_drew)); exact Kd.R_mono HO_328000.out (fun _ hk => ⟨hk.1.1.1, ⟨hk.1.1.2, hk.2⟩⟩)⟩, ⟨by (try simp only [hl332000_78]); (with_reducible repeat (first | apply Kd.R_alloc | apply Kd.R_drewN | apply Kd.R_drew)); exact Kd.R_mono HO_332000.out (fun _ hk => ⟨hk.1.1.1, ⟨hk.1.1.2, hk.2⟩⟩)⟩, ⟨by (try simp only [hl332000_78]); (with_reducible repeat (first | apply Kd.R_alloc | apply Kd.R_drewN | apply Kd.R_drew)); exact Kd.R_mono HO_340000.out (fun _ hk => ⟨hk.1.1.1, ⟨hk.1.1.2, hk.2⟩⟩)⟩, ⟨by (try simp only [hl332000_78]); (with_reducible repeat (first | apply Kd.R_alloc | apply Kd.R_drewN | apply Kd.R_drew)); exact Kd.R_mono HO365.out (fun _ hk => ⟨hk.1.1.1.2, ⟨hk.1.1.2, hk.1.2⟩⟩)⟩, ⟨by (try simp only [hl332000_78]); (with_reducible repeat (first | refine blk_drewN ?_ _ | refine blk_drew ?_ | refine blk_alloc ?_ _)); exact BK314.out⟩, ⟨by (try simp only [hl332000_78]); (with_reducible repeat (first | refine blk_drewN ?_ _ | refine blk_drew ?_ | refine blk_alloc ?_ _)); exact BK327.out⟩, ⟨by (try simp only [hl332000_78]); (with_reducible repeat (first | refine blk_drewN ?_ _ | refine blk_drew ?_ | refine blk_alloc ?_ _)); exact BK331.out⟩, ⟨by (try simp only [hl332000_78]); (with_reducible repeat (first | refine blk_drewN ?_ _ | refine blk_drew ?_ | refine blk_alloc ?_ _)); exact BK339.out⟩, ⟨by (try simp only [hl332000_78]); (with_reducible repeat (first | refine blk_drewN ?_ _ | refine blk_drew ?_ | refine blk_alloc ?_ _)); exact BK367.out⟩, ⟨zb5 HB.out GE314.out GE327.out GE331.out GE339.out GE367.out⟩⟩
             case rest =>
              clear HC120
              try clear c1
              try clear c2
              try clear p2
              try clear c3
              try clear c4
              try clear c4b0
              try clear c5
              try clear c6
              try clear c7
              try clear c8
              try clear c9
              try clear c9b0
              try clear c10
              try clear c11
              try clear c12
              try clear c13
              try clear c14
              try clear c15
              try clear c16
              try clear c17
              try clear c18
              try clear c19
              try clear c20
              try clear c21
              try clear c33
              try clear c39
              try clear c40
              try clear c48
              try clear c49
              try clear c50
              try clear c53
              try clear c54
              try clear c55
              try clear c56
              try clear c58
              try clear c59
              try clear c62
              try clear c63
              try clear c64
              try clear c66
              try clear c67
              try clear c70
              try clear c73
              try clear c76
              try clear c87
              try clear c88
              try clear c89
              try clear c93
              try clear c93b0
              try clear c95
              try clear c96
              try clear c97
              try clear c98
              try clear c100
              try clear c101
              try clear c104
              try clear c105
              try clear c106
              try clear c108
              try clear c109
              try clear c112
              try clear c115
              try clear c115b0
              try clear c116
              try clear c116b0
              try clear c116b1
              try clear c121
              try clear c122
              try clear c123
              try clear c128
              try clear c129
              try clear c138
              try clear c139
              try clear c140
              try clear c141
              try clear c144
              try clear c145
              try clear c146
              try clear c147
              try clear c148
              try clear c150
              try clear c151
              try clear c152
              try clear c155
              try clear c156
              try clear c157
              try clear c158
              try clear c160
              try clear c161
              try clear c162
              try clear hcz102_0
              try clear hcz107_0
              try clear hcz110_0
              try clear hcz11_0
              try clear hcz124_0
              try clear hcz126_0
              try clear hcz130_0
              try clear hcz142_0
              try clear hcz149_0
              try clear hcz153_0
              try clear hcz159_0
              try clear hcz163_0
              try clear hcz22_0
              try clear hcz25_0
              try clear hcz34_0
              try clear hcz35_0
              try clear hcz41_0
              try clear hcz43_0
              try clear hcz51_0
              try clear hcz57_0
              try clear hcz60_0
              try clear hcz65_0
              try clear hcz68_0
              try clear hcz6_0
              try clear hcz90_0
              try clear hcz99_0
              try clear hfz102_0
              try clear hfz107_0
              try clear hfz110_0
              try clear hfz11_0
              try clear hfz124_0
              try clear hfz126_0
              try clear hfz130_0
              try clear hfz142_0
              try clear hfz149_0
              try clear hfz153_0
              try clear hfz159_0
              try clear hfz163_0
              try clear hfz22_0
              try clear hfz25_0
              try clear hfz34_0
              try clear hfz35_0
              try clear hfz41_0
              try clear hfz43_0
              try clear hfz51_0
              try clear hfz57_0
              try clear hfz60_0
              try clear hfz65_0
              try clear hfz68_0
              try clear hfz6_0
              try clear hfz90_0
              try clear hfz99_0
              try clear p2
              obtain ⟨kq, x110_119, rfl, HA, HJ119, HO_328000, HO_332000, HO_340000, HO_368000, BK314, BK327, BK331, BK339, BK367, HB⟩ := hcut
              have hl340000_119 := (Kd.R_reads' HO_340000.out).1
              rw [hl340000_119] at HO_340000
              (try simp only [hl340000_119])
              (try simp only [hl340000_119] at BK314)
              (try simp only [hl340000_119] at BK327)
              (try simp only [hl340000_119] at BK331)
              (try simp only [hl340000_119] at BK339)
              (try simp only [hl340000_119] at BK367)
              (try simp only [hl340000_119] at HO_328000)
              (try simp only [hl340000_119] at HO_332000)
              (try simp only [hl340000_119] at HO_368000)
              cases kq with
              | zero => exact absurd HA.out (by simp [laws_FnExactDoActs.j2])
              | succ kj119 =>
               have H := HA.out
               clear HA
               simp only [laws_FnExactDoActs.j2] at H
               by_cases c165 : x110_119 = true
               ·subst c165
                have H1 : (some false) = some r := by rw [if_pos rfl] at H; exact H
                clear H
                have H := H1
                clear H1
                exact absurd ((Option.some.inj H).trans HLT.out) (by decide)
               ·replace c165 := Bool.eq_false_iff.mpr c165
                subst c165
                have H1 : ((laws_heldDisk.f kj119 t355 1).bind fun t369 => (if t369 < 0 then (some false) else (if t369 = t354 then (some true) else (some false)))) = some r := by rw [if_neg (show ¬ (false = true) by decide)] at H; exact H
                clear H
                have H := H1
                clear H1
                replace H := Option.bind_eq_some_iff.mp H
                obtain ⟨t369, A1660, H⟩ := H
                try dsimp only at H
                have A166 := Aside0.mk A1660
                clear A1660
                by_cases c167 : t369 < 0
                ·rw [if_pos c167] at H
                 have c167b0 : decide (t369 < 0) = true := decide_eq_true c167
                 clear c167
                 exact absurd ((Option.some.inj H).trans HLT.out) (by decide)
                ·rw [if_neg c167] at H
                 have c167b0 : decide (t369 < 0) = false := decide_eq_false c167
                 clear c167
                 by_cases c168 : t369 = t354
                 ·rw [if_pos c168] at H
                  have c168b0 : (t369 == t354) = true := beq_iff_eq.mpr c168
                  have c168b1 : (t369 != t354) = false := bne_eq_false_iff_eq.mpr c168
                  clear c168
                  obtain rfl := Option.some.inj H
                  have hnb169 := NB339_314.out
                  have hnc169 := NB314_339.out
                  have hnb170 := NB339_327.out
                  have hnc170 := NB327_339.out
                  have hnb171 := NB339_331.out
                  have hnc171 := NB331_339.out
                  have hnb172 := NB339_367.out
                  have hnc172 := NB367_339.out
                  obtain ⟨hcz173_0, hfz173_0⟩ := zc1 BK339.out
                  go_wp2_with (first | ((with_reducible refine gate_callee (f := 15) rfl ?_); refine goesL_ (some 113) rfl rfl Try.func15 (by kernel_rfl) rfl #[.agg #[.slice Ao47 t355.length co47], .int .i64 1] rfl zr ?_; (with_reducible refine (laws_heldDisk.calls kj119 _ _ t355 1 t369 _ ?side1 ?side2 A166.out).mono ?_); (case side1 => repeat (first | exact (Kd.R_reads' HO_340000.out).2.2 | (with_reducible refine Kd.C_alloc ?_ _) | (with_reducible refine Kd.C_drewN ?_ _) | (with_reducible refine Kd.C_drew ?_))); (case side2 => exact (Kd.R_reads' HO_340000.out).2.1); rintro e w174 ⟨rfl, hb⟩; refine ⟨_, rfl, ?_⟩; replace HO_328000 := am (Kd.R_below (rx HO_328000.out) hb); replace HO_332000 := am (Kd.R_below (rx HO_332000.out) hb); replace HO_340000 := am (Kd.R_below (rx HO_340000.out) hb); replace HO_368000 := am (Kd.R_below (rx HO_368000.out) hb); replace BK314 := am (bb hb (kx BK314.out)); replace BK327 := am (bb hb (kx BK327.out)); replace BK331 := am (bb hb (kx BK331.out)); replace BK339 := am (bb hb (kx BK339.out)); replace BK367 := am (bb hb (kx BK367.out)); replace HB := am (below_step (zb5 HB.out GE314.out GE327.out GE331.out GE339.out GE367.out) hb); (try clear hb); (try clear hb2); (try clear hk); (try clear hi)))
                  go_ret
                  exact ⟨by first | rfl | (simp [errW_none, errW_some] <;> rfl) | (simp [*, errW_none, errW_some] <;> rfl), zb5 HB.out GE314.out GE327.out GE331.out GE339.out GE367.out⟩
                 ·rw [if_neg c168] at H
                  have c168b0 : (t369 == t354) = false := beq_eq_false_iff_ne.mpr c168
                  have c168b1 : (t369 != t354) = true := bne_iff_ne.mpr c168
                  exact absurd ((Option.some.inj H).trans HLT.out) (by decide)
            ·rw [if_neg c116] at H
             have c116b0 : (t356 == t354) = false := beq_eq_false_iff_ne.mpr c116
             have c116b1 : (t356 != t354) = true := bne_iff_ne.mpr c116
             exact absurd ((Option.some.inj H).trans HLT.out) (by decide)
       ·replace c76 := Bool.eq_false_iff.mpr c76
        subst c76
        have H1 : (some false) = some r := by rw [if_neg (show ¬ (false = true) by decide)] at H; exact H
        clear H
        have H := H1
        clear H1
        exact absurd ((Option.some.inj H).trans HLT.out) (by decide)
      ·replace c73 := Bool.eq_false_iff.mpr c73
       subst c73
       have H1 : (some false) = some r := by rw [if_neg (show ¬ (false = true) by decide)] at H; exact H
       clear H
       have H := H1
       clear H1
       exact absurd ((Option.some.inj H).trans HLT.out) (by decide)

end Go.Proofs.Ytklbkkoojkmjbaa.QFnExactDoActs
