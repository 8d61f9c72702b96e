/- Written by the kit's print.py, called by our own print2.sh with one import more; not by print.sh. -/
import Derived.Test.YtklbkkoojkmjbaaQFnExactCutActsx0
import Derived.Test.YtklbkkoojkmjbaaQFnExactCutActsx1
import Derived.Test.YtklbkkoojkmjbaaQFnExactCutActsx2
import Derived.Test.YtklbkkoojkmjbaaQFnExactCutActsx3
import Derived.Test.YtklbkkoojkmjbaaQFnExactCutActsx4
import Derived.Test.YtklbkkoojkmjbaaQFnExactCutActsx5
import Derived.Test.YtklbkkoojkmjbaaQFnExactCutActsx10
import Derived.Test.YtklbkkoojkmjbaaQFnExactCutActsx17
import Derived.Test.YtklbkkoojkmjbaaQFnExactCutActsx18
namespace Go.Proofs.Ytklbkkoojkmjbaa.QFnExactCutActs
open Go.RowKit Go.Proofs.YtklbkkoojkmjbaaW.PrintWords Go.Proofs.YtklbkkoojkmjbaaW.PrintLast Go.Proofs.YtklbkkoojkmjbaaW.PrintMore
attribute [local go_sem] max2_int min2_int max_two min_two max_three min_three max_four min_four   -- for this text's walks alone
open Go.Proofs.Ytklbkkoojkmjbaa.Short
set_option linter.unusedVariables false
set_option linter.unusedSimpArgs false

/-! ### laws_FnExactCutActs: function 6 -/
mutual
def laws_FnExactCutActs.j0 : Nat → List (S26) → Int → List Int → Bool → List (S35) → List Int → Bool → Bool → List (S85) → List (S66) → List (S66) → List (S66) → Option (Bool)
 | 0, _, _, _, _, _, _, _, _, _, _, _, _ => none
 | k + 1, x1, x2, x3, x11, x13, x14, x16, x68, x383000, x399000, x403000, x414000 => if x68 = true then (some false) else ((laws_toDisk.f k x383000).bind fun t415 => ((laws_eqDisk.f k x403000 t415).bind fun t418 => (if t418 = true then ((laws_toActS.f k x1).bind fun t419 => ((laws_eqActS.f k x13 t419).bind fun t422 => (if t422 = true then ((laws_toIntS.f k x3).bind fun t423 => ((laws_eqIntS.f k x14 t423).bind fun t426 => (if t426 = true then ((laws_markDisk.f k x403000 1).bind fun bt427 => ((laws_markActS.f k x13 bt427.1).bind fun bt429 => ((laws_markIntS.f k x14 bt429.1).bind fun bt431 => (if bt431.1 < 0 then (laws_FnExactCutActs.j1 k x1 x2 x3 x11 true x383000 x399000 x414000) else ((laws_eqDisk.f k x414000 x399000).bind fun t433 => (if t433 = true then (laws_FnExactCutActs.j1 k x1 x2 x3 x11 (x16 != x11) x383000 x399000 x414000) else (laws_FnExactCutActs.j1 k x1 x2 x3 x11 true x383000 x399000 x414000))))))) else (some false)))) else (some false)))) else (some false))))
def laws_FnExactCutActs.j1 : Nat → List (S26) → Int → List Int → Bool → Bool → List (S85) → List (S66) → List (S66) → Option (Bool)
 | 0, _, _, _, _, _, _, _, _ => none
 | k + 1, x1, x2, x3, x11, x105, x383000, x399000, x414000 => if x105 = true then (some false) else ((laws_markDisk.f k x414000 1).bind fun bt434 => ((laws_heldDisk.f k bt434.2 1).bind fun t436 => (if t436 < 0 then (some false) else (if t436 = bt434.1 then ((laws_toDisk.f k x383000).bind fun t437 => ((laws_toActS.f k x1).bind fun t440 => ((laws_toIntS.f k x3).bind fun t443 => ((impl_CutActs.f k t437 t440 x2 t443).bind fun bt446 => ((laws_eqDisk.f k bt446.1 x399000).bind fun t451 => (if t451 = true then (laws_FnExactCutActs.j2 k bt434.1 (bt446.2 != x11) bt434.2) else (laws_FnExactCutActs.j2 k bt434.1 true bt434.2))))))) else (some false)))))
def laws_FnExactCutActs.j2 : Nat → Int → Bool → List (S66) → Option (Bool)
 | 0, _, _, _ => none
 | k + 1, x18, x136, x414000 => if x136 = true then (some false) else ((laws_heldDisk.f k x414000 1).bind fun t452 => (if t452 < 0 then (some false) else (if t452 = x18 then (some true) else (some false))))
end
def laws_FnExactCutActs.f (k : Nat) (l0_0 : List (S85)) (l1 : List (S26)) (a2 : Int) (l3 : List Int) : Option (Bool) := if (l3.length : Int) > 1048576 then (some true) else ((laws_szDisk.f k l0_0 1048576).bind fun t383 => (if t383 < 0 then (some true) else ((laws_szActS.f k l1 t383).bind fun t384 => (if t384 < 0 then (some true) else ((laws_toDisk.f k l0_0).bind fun t385 => ((laws_toActS.f k l1).bind fun t388 => ((laws_toIntS.f k l3).bind fun t391 => ((spec_CutActs.f k t385 t388 a2 t391).bind fun bt394 => ((laws_toDisk.f k l0_0).bind fun t399 => ((laws_toActS.f k l1).bind fun t403 => ((laws_toIntS.f k l3).bind fun t406 => ((impl_CutActs.f k t399 t403 a2 t406).bind fun bt409 => ((laws_eqDisk.f k bt409.1 bt394.1).bind fun t414 => (if t414 = true then (laws_FnExactCutActs.j0 k l1 a2 l3 bt394.2 t403 t406 bt409.2 (bt409.2 != bt394.2) l0_0 bt394.1 t399 bt409.1) else (laws_FnExactCutActs.j0 k l1 a2 l3 bt394.2 t403 t406 bt409.2 true l0_0 bt394.1 t399 bt409.1)))))))))))))))
theorem laws_FnExactCutActs.mono_l : ∀ k, (∀ y0 y1 y2 y3 y4 y5 y6 y7 y8 y9 y10 y11, LeO (laws_FnExactCutActs.j0 k y0 y1 y2 y3 y4 y5 y6 y7 y8 y9 y10 y11) (laws_FnExactCutActs.j0 (k + 1) y0 y1 y2 y3 y4 y5 y6 y7 y8 y9 y10 y11)) ∧ (∀ y0 y1 y2 y3 y4 y5 y6 y7, LeO (laws_FnExactCutActs.j1 k y0 y1 y2 y3 y4 y5 y6 y7) (laws_FnExactCutActs.j1 (k + 1) y0 y1 y2 y3 y4 y5 y6 y7)) ∧ (∀ y0 y1 y2, LeO (laws_FnExactCutActs.j2 k y0 y1 y2) (laws_FnExactCutActs.j2 (k + 1) y0 y1 y2))
 | 0 => ⟨fun _ _ _ _ _ _ _ _ _ _ _ _ r h => by simp [laws_FnExactCutActs.j0] at h, fun _ _ _ _ _ _ _ _ r h => by simp [laws_FnExactCutActs.j1] at h, fun _ _ _ r h => by simp [laws_FnExactCutActs.j2] at h⟩
 | k + 1 => by
  obtain ⟨ih0, ih1, ih2⟩ := laws_FnExactCutActs.mono_l k
  refine ⟨?_, ?_, ?_⟩
  ·intro y0 y1 y2 y3 y4 y5 y6 y7 y8 y9 y10 y11
   unfold laws_FnExactCutActs.j0
   repeat' first
   | (with_reducible exact ih0 _ _ _ _ _ _ _ _ _ _ _ _)
   | (with_reducible exact ih1 _ _ _ _ _ _ _ _)
   | (with_reducible exact ih2 _ _ _)
   | (with_reducible exact impl_CutActs.mono _ _ _ _ _)
   | (with_reducible exact laws_eqActS.mono _ _ _)
   | (with_reducible exact laws_eqDisk.mono _ _ _)
   | (with_reducible exact laws_eqIntS.mono _ _ _)
   | (with_reducible exact laws_heldDisk.mono _ _ _)
   | (with_reducible exact laws_markActS.mono _ _ _)
   | (with_reducible exact laws_markDisk.mono _ _ _)
   | (with_reducible exact laws_markIntS.mono _ _ _)
   | (with_reducible exact laws_szActS.mono _ _ _)
   | (with_reducible exact laws_szDisk.mono _ _ _)
   | (with_reducible exact laws_toActS.mono _ _)
   | (with_reducible exact laws_toDisk.mono _ _)
   | (with_reducible exact laws_toIntS.mono _ _)
   | (with_reducible exact spec_CutActs.mono _ _ _ _ _)
   | (with_reducible exact LeO.refl _)
   | (with_reducible exact LeO.none _)
   | (with_reducible refine LeO.ite ?_ ?_)
   | (with_reducible refine LeO.bind ?_ (fun _ => ?_))
   | exact ih0 _ _ _ _ _ _ _ _ _ _ _ _
   | exact ih1 _ _ _ _ _ _ _ _
   | exact ih2 _ _ _
   | exact impl_CutActs.mono _ _ _ _ _
   | exact laws_eqActS.mono _ _ _
   | exact laws_eqDisk.mono _ _ _
   | exact laws_eqIntS.mono _ _ _
   | exact laws_heldDisk.mono _ _ _
   | exact laws_markActS.mono _ _ _
   | exact laws_markDisk.mono _ _ _
   | exact laws_markIntS.mono _ _ _
   | exact laws_szActS.mono _ _ _
   | exact laws_szDisk.mono _ _ _
   | exact laws_toActS.mono _ _
   | exact laws_toDisk.mono _ _
   | exact laws_toIntS.mono _ _
   | exact spec_CutActs.mono _ _ _ _ _
   | exact LeO.none _
   | refine LeO.ite ?_ ?_
   | refine LeO.bind ?_ (fun _ => ?_)
  ·intro y0 y1 y2 y3 y4 y5 y6 y7
   unfold laws_FnExactCutActs.j1
   repeat' first
   | (with_reducible exact ih0 _ _ _ _ _ _ _ _ _ _ _ _)
   | (with_reducible exact ih1 _ _ _ _ _ _ _ _)
   | (with_reducible exact ih2 _ _ _)
   | (with_reducible exact impl_CutActs.mono _ _ _ _ _)
   | (with_reducible exact laws_eqActS.mono _ _ _)
   | (with_reducible exact laws_eqDisk.mono _ _ _)
   | (with_reducible exact laws_eqIntS.mono _ _ _)
   | (with_reducible exact laws_heldDisk.mono _ _ _)
   | (with_reducible exact laws_markActS.mono _ _ _)
   | (with_reducible exact laws_markDisk.mono _ _ _)
   | (with_reducible exact laws_markIntS.mono _ _ _)
   | (with_reducible exact laws_szActS.mono _ _ _)
   | (with_reducible exact laws_szDisk.mono _ _ _)
   | (with_reducible exact laws_toActS.mono _ _)
   | (with_reducible exact laws_toDisk.mono _ _)
   | (with_reducible exact laws_toIntS.mono _ _)
   | (with_reducible exact spec_CutActs.mono _ _ _ _ _)
   | (with_reducible exact LeO.refl _)
   | (with_reducible exact LeO.none _)
   | (with_reducible refine LeO.ite ?_ ?_)
   | (with_reducible refine LeO.bind ?_ (fun _ => ?_))
   | exact ih0 _ _ _ _ _ _ _ _ _ _ _ _
   | exact ih1 _ _ _ _ _ _ _ _
   | exact ih2 _ _ _
   | exact impl_CutActs.mono _ _ _ _ _
   | exact laws_eqActS.mono _ _ _
   | exact laws_eqDisk.mono _ _ _
   | exact laws_eqIntS.mono _ _ _
   | exact laws_heldDisk.mono _ _ _
   | exact laws_markActS.mono _ _ _
   | exact laws_markDisk.mono _ _ _
   | exact laws_markIntS.mono _ _ _
   | exact laws_szActS.mono _ _ _
   | exact laws_szDisk.mono _ _ _
   | exact laws_toActS.mono _ _
   | exact laws_toDisk.mono _ _
   | exact laws_toIntS.mono _ _
   | exact spec_CutActs.mono _ _ _ _ _
   | exact LeO.none _
   | refine LeO.ite ?_ ?_
   | refine LeO.bind ?_ (fun _ => ?_)
  ·intro y0 y1 y2
   unfold laws_FnExactCutActs.j2
   repeat' first
   | (with_reducible exact ih0 _ _ _ _ _ _ _ _ _ _ _ _)
   | (with_reducible exact ih1 _ _ _ _ _ _ _ _)
   | (with_reducible exact ih2 _ _ _)
   | (with_reducible exact impl_CutActs.mono _ _ _ _ _)
   | (with_reducible exact laws_eqActS.mono _ _ _)
   | (with_reducible exact laws_eqDisk.mono _ _ _)
   | (with_reducible exact laws_eqIntS.mono _ _ _)
   | (with_reducible exact laws_heldDisk.mono _ _ _)
   | (with_reducible exact laws_markActS.mono _ _ _)
   | (with_reducible exact laws_markDisk.mono _ _ _)
   | (with_reducible exact laws_markIntS.mono _ _ _)
   | (with_reducible exact laws_szActS.mono _ _ _)
   | (with_reducible exact laws_szDisk.mono _ _ _)
   | (with_reducible exact laws_toActS.mono _ _)
   | (with_reducible exact laws_toDisk.mono _ _)
   | (with_reducible exact laws_toIntS.mono _ _)
   | (with_reducible exact spec_CutActs.mono _ _ _ _ _)
   | (with_reducible exact LeO.refl _)
   | (with_reducible exact LeO.none _)
   | (with_reducible refine LeO.ite ?_ ?_)
   | (with_reducible refine LeO.bind ?_ (fun _ => ?_))
   | exact ih0 _ _ _ _ _ _ _ _ _ _ _ _
   | exact ih1 _ _ _ _ _ _ _ _
   | exact ih2 _ _ _
   | exact impl_CutActs.mono _ _ _ _ _
   | exact laws_eqActS.mono _ _ _
   | exact laws_eqDisk.mono _ _ _
   | exact laws_eqIntS.mono _ _ _
   | exact laws_heldDisk.mono _ _ _
   | exact laws_markActS.mono _ _ _
   | exact laws_markDisk.mono _ _ _
   | exact laws_markIntS.mono _ _ _
   | exact laws_szActS.mono _ _ _
   | exact laws_szDisk.mono _ _ _
   | exact laws_toActS.mono _ _
   | exact laws_toDisk.mono _ _
   | exact laws_toIntS.mono _ _
   | exact spec_CutActs.mono _ _ _ _ _
   | exact LeO.none _
   | refine LeO.ite ?_ ?_
   | refine LeO.bind ?_ (fun _ => ?_)
theorem laws_FnExactCutActs.mono : ∀ a0 a1 a2 a3 k, LeO (laws_FnExactCutActs.f k a0 a1 a2 a3) (laws_FnExactCutActs.f (k + 1) a0 a1 a2 a3) := by
 intro a0 a1 a2 a3 k
 obtain ⟨ih0, ih1, ih2⟩ := laws_FnExactCutActs.mono_l k
 unfold laws_FnExactCutActs.f
 repeat' first
   | (with_reducible exact ih0 _ _ _ _ _ _ _ _ _ _ _ _)
   | (with_reducible exact ih1 _ _ _ _ _ _ _ _)
   | (with_reducible exact ih2 _ _ _)
   | (with_reducible exact impl_CutActs.mono _ _ _ _ _)
   | (with_reducible exact laws_eqActS.mono _ _ _)
   | (with_reducible exact laws_eqDisk.mono _ _ _)
   | (with_reducible exact laws_eqIntS.mono _ _ _)
   | (with_reducible exact laws_heldDisk.mono _ _ _)
   | (with_reducible exact laws_markActS.mono _ _ _)
   | (with_reducible exact laws_markDisk.mono _ _ _)
   | (with_reducible exact laws_markIntS.mono _ _ _)
   | (with_reducible exact laws_szActS.mono _ _ _)
   | (with_reducible exact laws_szDisk.mono _ _ _)
   | (with_reducible exact laws_toActS.mono _ _)
   | (with_reducible exact laws_toDisk.mono _ _)
   | (with_reducible exact laws_toIntS.mono _ _)
   | (with_reducible exact spec_CutActs.mono _ _ _ _ _)
   | (with_reducible exact LeO.refl _)
   | (with_reducible exact LeO.none _)
   | (with_reducible refine LeO.ite ?_ ?_)
   | (with_reducible refine LeO.bind ?_ (fun _ => ?_))
   | exact ih0 _ _ _ _ _ _ _ _ _ _ _ _
   | exact ih1 _ _ _ _ _ _ _ _
   | exact ih2 _ _ _
   | exact impl_CutActs.mono _ _ _ _ _
   | exact laws_eqActS.mono _ _ _
   | exact laws_eqDisk.mono _ _ _
   | exact laws_eqIntS.mono _ _ _
   | exact laws_heldDisk.mono _ _ _
   | exact laws_markActS.mono _ _ _
   | exact laws_markDisk.mono _ _ _
   | exact laws_markIntS.mono _ _ _
   | exact laws_szActS.mono _ _ _
   | exact laws_szDisk.mono _ _ _
   | exact laws_toActS.mono _ _
   | exact laws_toDisk.mono _ _
   | exact laws_toIntS.mono _ _
   | exact spec_CutActs.mono _ _ _ _ _
   | exact LeO.none _
   | refine LeO.ite ?_ ?_
   | refine LeO.bind ?_ (fun _ => ?_)
set_option maxHeartbeats 8000000 in
set_option maxRecDepth 100000 in
theorem laws_FnExactCutActs.calls (k : Nat) (A0_0 : Option Addr) (c0_0 : Nat) (l0_0 : List (S85)) (A1 : Option Addr) (c1 : Nat) (l1 : List (S26)) (a2 : Int) (A3 : Option Addr) (c3 : Nat) (l3 : List Int) (r : Bool) (w : World) (hr0_0 : Kd.C k85 w A0_0 l0_0.length l0_0) (hc0_0 : l0_0.length ≤ c0_0) (hr1 : Kd.C k26 w A1 l1.length l1) (hc1 : l1.length ≤ c1) (hr3 : Kd.C (Kd.int .i64) w A3 l3.length l3) (hc3 : l3.length ≤ c3) (h : laws_FnExactCutActs.f k l0_0 l1 a2 l3 = some r) (hrt : r = true := by rfl) :
  Calls Try.prog 6 #[.agg #[.slice A0_0 l0_0.length c0_0], .slice A1 l1.length c1, .int .i64 a2, .slice A3 l3.length c3] w fun e w' => e = .returned (.bool r) ∧ Below w.heap.size w w' := by
 have hu24 := Try.underlying24
 have hu31 := Try.underlying31
 have HR0_0 := Aside0.mk hr0_0
 have HC0_0 := Aside0.mk hc0_0
 clear hr0_0 hc0_0
 have HR1 := Aside0.mk hr1
 have HC1 := Aside0.mk hc1
 clear hr1 hc1
 have HR3 := Aside0.mk hr3
 have HC3 := Aside0.mk hc3
 clear hr3 hc3
 have HB := Aside0.mk (Below.refl w.heap.size w)
 have HLT := Aside0.mk hrt
 clear hrt
 have H : (if (l3.length : Int) > 1048576 then (some true) else ((laws_szDisk.f k l0_0 1048576).bind fun t383 => (if t383 < 0 then (some true) else ((laws_szActS.f k l1 t383).bind fun t384 => (if t384 < 0 then (some true) else ((laws_toDisk.f k l0_0).bind fun t385 => ((laws_toActS.f k l1).bind fun t388 => ((laws_toIntS.f k l3).bind fun t391 => ((spec_CutActs.f k t385 t388 a2 t391).bind fun bt394 => ((laws_toDisk.f k l0_0).bind fun t399 => ((laws_toActS.f k l1).bind fun t403 => ((laws_toIntS.f k l3).bind fun t406 => ((impl_CutActs.f k t399 t403 a2 t406).bind fun bt409 => ((laws_eqDisk.f k bt409.1 bt394.1).bind fun t414 => (if t414 = true then (laws_FnExactCutActs.j0 k l1 a2 l3 bt394.2 t403 t406 bt409.2 (bt409.2 != bt394.2) l0_0 bt394.1 t399 bt409.1) else (laws_FnExactCutActs.j0 k l1 a2 l3 bt394.2 t403 t406 bt409.2 true l0_0 bt394.1 t399 bt409.1)))))))))))))))) = some r := h
 clear h
 by_cases c5 : (l3.length : Int) > 1048576
 ·rw [if_pos c5] at H
  have c5b0 : decide (1048576 < (l3.length : Int)) = true := decide_eq_true c5
  have c5b1 : decide (1048576 < l3.length) = true := decide_eq_true (by omega)
  clear c5
  obtain rfl := Option.some.inj H
  go_enter Try.func6, Try.ntmps6
  go_wp2_with (first | ((with_reducible refine gate_dst (N := 4) rfl ?_); refine box_event rfl (N := 4) rfl (cs := #[.slice A0_0 l0_0.length c0_0]) (t := 24) zrun ?_; intro gb382 hg w6 hbox hb; have BK382 := am (hbox); have GW382 := zge hg (zb0 HB.out); have GE382 := zge hg (zb0 HB.out); replace HB := zs0 hb HB; clear hb hbox hg))
  go_ret
  exact ⟨by first | rfl | (simp [errW_none, errW_some] <;> rfl) | (simp [*, errW_none, errW_some] <;> rfl), zb1 HB.out GE382.out⟩
 ·rw [if_neg c5] at H
  have c5b0 : decide (1048576 < (l3.length : Int)) = false := decide_eq_false c5
  have c5b1 : decide (1048576 < l3.length) = false := decide_eq_false (by omega)
  clear c5
  replace H := Option.bind_eq_some_iff.mp H
  obtain ⟨t383, A70, H⟩ := H
  try dsimp only at H
  have A7 := Aside0.mk A70
  clear A70
  by_cases c8 : t383 < 0
  ·rw [if_pos c8] at H
   have c8b0 : decide (t383 < 0) = true := decide_eq_true c8
   clear c8
   obtain rfl := Option.some.inj H
   go_enter Try.func6, Try.ntmps6
   go_wp2_with (first | ((with_reducible refine gate_dst (N := 4) rfl ?_); refine box_event rfl (N := 4) rfl (cs := #[.slice A0_0 l0_0.length c0_0]) (t := 24) zrun ?_; intro gb382 hg w9 hbox hb; have BK382 := am (hbox); have GW382 := zge hg (zb0 HB.out); have GE382 := zge hg (zb0 HB.out); replace HB := zs0 hb HB; clear hb hbox hg; obtain ⟨hcz10_0, hfz10_0⟩ := zc1 BK382.out) | ((with_reducible refine gate_callee (f := 7) rfl ?_); refine goesL_ (some 27) rfl rfl Try.func7 (by kernel_rfl) rfl #[.agg #[.slice A0_0 l0_0.length c0_0], .int .i64 1048576] rfl zr ?_; (with_reducible refine (laws_szDisk.calls k _ _ l0_0 1048576 t383 _ ?side1 ?side2 A7.out).mono ?_); (case side1 => repeat (first | exact (Kd.C_below HR0_0.out HB.out) | (with_reducible refine Kd.C_alloc ?_ _) | (with_reducible refine Kd.C_drewN ?_ _) | (with_reducible refine Kd.C_drew ?_))); (case side2 => exact HC0_0.out); rintro e w11 ⟨rfl, hb⟩; refine ⟨_, rfl, ?_⟩; replace BK382 := zk hb BK382; replace HB := zs1 hb HB GE382; clear hb))
   go_ret
   exact ⟨by first | rfl | (simp [errW_none, errW_some] <;> rfl) | (simp [*, errW_none, errW_some] <;> rfl), zb1 HB.out GE382.out⟩
  ·rw [if_neg c8] at H
   have c8b0 : decide (t383 < 0) = false := decide_eq_false c8
   clear c8
   replace H := Option.bind_eq_some_iff.mp H
   obtain ⟨t384, A120, H⟩ := H
   try dsimp only at H
   have A12 := Aside0.mk A120
   clear A120
   by_cases c13 : t384 < 0
   ·rw [if_pos c13] at H
    have c13b0 : decide (t384 < 0) = true := decide_eq_true c13
    clear c13
    obtain rfl := Option.some.inj H
    go_enter Try.func6, Try.ntmps6
    go_wp2_with (first | ((with_reducible refine gate_dst (N := 4) rfl ?_); refine box_event rfl (N := 4) rfl (cs := #[.slice A0_0 l0_0.length c0_0]) (t := 24) zrun ?_; intro gb382 hg w14 hbox hb; have BK382 := am (hbox); have GW382 := zge hg (zb0 HB.out); have GE382 := zge hg (zb0 HB.out); replace HB := zs0 hb HB; clear hb hbox hg; obtain ⟨hcz15_0, hfz15_0⟩ := zc1 BK382.out) | ((with_reducible refine gate_callee (f := 7) rfl ?_); refine goesL_ (some 27) rfl rfl Try.func7 (by kernel_rfl) rfl #[.agg #[.slice A0_0 l0_0.length c0_0], .int .i64 1048576] rfl zr ?_; (with_reducible refine (laws_szDisk.calls k _ _ l0_0 1048576 t383 _ ?side1 ?side2 A7.out).mono ?_); (case side1 => repeat (first | exact (Kd.C_below HR0_0.out HB.out) | (with_reducible refine Kd.C_alloc ?_ _) | (with_reducible refine Kd.C_drewN ?_ _) | (with_reducible refine Kd.C_drew ?_))); (case side2 => exact HC0_0.out); rintro e w16 ⟨rfl, hb⟩; refine ⟨_, rfl, ?_⟩; replace BK382 := zk hb BK382; replace HB := zs1 hb HB GE382; clear hb) | ((with_reducible refine gate_callee (f := 16) rfl ?_); refine goesL_ (some 32) rfl rfl Try.func16 (by kernel_rfl) rfl #[.slice A1 l1.length c1, .int .i64 t383] rfl zr ?_; (with_reducible refine (laws_szActS.calls k _ _ l1 t383 t384 _ ?side1 ?side2 A12.out).mono ?_); (case side1 => repeat (first | exact (Kd.C_below HR1.out HB.out) | (with_reducible refine Kd.C_alloc ?_ _) | (with_reducible refine Kd.C_drewN ?_ _) | (with_reducible refine Kd.C_drew ?_))); (case side2 => exact HC1.out); rintro e w17 ⟨rfl, hb⟩; refine ⟨_, rfl, ?_⟩; replace BK382 := zk hb BK382; replace HB := zs1 hb HB GE382; clear hb))
    go_ret
    exact ⟨by first | rfl | (simp [errW_none, errW_some] <;> rfl) | (simp [*, errW_none, errW_some] <;> rfl), zb1 HB.out GE382.out⟩
   ·rw [if_neg c13] at H
    have c13b0 : decide (t384 < 0) = false := decide_eq_false c13
    clear c13
    replace H := Option.bind_eq_some_iff.mp H
    obtain ⟨t385, A180, H⟩ := H
    try dsimp only at H
    have A18 := Aside0.mk A180
    clear A180
    replace H := Option.bind_eq_some_iff.mp H
    obtain ⟨t388, A190, H⟩ := H
    try dsimp only at H
    have A19 := Aside0.mk A190
    clear A190
    replace H := Option.bind_eq_some_iff.mp H
    obtain ⟨t391, A200, H⟩ := H
    try dsimp only at H
    have A20 := Aside0.mk A200
    clear A200
    replace H := Option.bind_eq_some_iff.mp H
    obtain ⟨⟨t394, t397⟩, A210, H⟩ := H
    try dsimp only at H
    have A21 := Aside0.mk A210
    clear A210
    replace H := Option.bind_eq_some_iff.mp H
    obtain ⟨t399, A220, H⟩ := H
    try dsimp only at H
    have A22 := Aside0.mk A220
    clear A220
    replace H := Option.bind_eq_some_iff.mp H
    obtain ⟨t403, A230, H⟩ := H
    try dsimp only at H
    have A23 := Aside0.mk A230
    clear A230
    replace H := Option.bind_eq_some_iff.mp H
    obtain ⟨t406, A240, H⟩ := H
    try dsimp only at H
    have A24 := Aside0.mk A240
    clear A240
    replace H := Option.bind_eq_some_iff.mp H
    obtain ⟨⟨t409, t412⟩, A250, H⟩ := H
    try dsimp only at H
    have A25 := Aside0.mk A250
    clear A250
    have HC26 := Aside0.mk H
    clear H
    go_enter Try.func6, Try.ntmps6
    go_upto_region 15 with (first | ((with_reducible refine gate_dst (N := 4) rfl ?_); refine box_event rfl (N := 4) rfl (cs := #[.slice A0_0 l0_0.length c0_0]) (t := 24) zrun ?_; intro gb382 hg w27 hbox hb; have BK382 := am (hbox); have GW382 := zge hg (zb0 HB.out); have GE382 := zge hg (zb0 HB.out); replace HB := zs0 hb HB; clear hb hbox hg; obtain ⟨hcz28_0, hfz28_0⟩ := zc1 BK382.out) | ((with_reducible refine gate_callee (f := 7) rfl ?_); refine goesL_ (some 27) rfl rfl Try.func7 (by kernel_rfl) rfl #[.agg #[.slice A0_0 l0_0.length c0_0], .int .i64 1048576] rfl zr ?_; (with_reducible refine (laws_szDisk.calls k _ _ l0_0 1048576 t383 _ ?side1 ?side2 A7.out).mono ?_); (case side1 => repeat (first | exact (Kd.C_below HR0_0.out HB.out) | (with_reducible refine Kd.C_alloc ?_ _) | (with_reducible refine Kd.C_drewN ?_ _) | (with_reducible refine Kd.C_drew ?_))); (case side2 => exact HC0_0.out); rintro e w29 ⟨rfl, hb⟩; refine ⟨_, rfl, ?_⟩; replace BK382 := zk hb BK382; replace HB := zs1 hb HB GE382; clear hb) | ((with_reducible refine gate_callee (f := 16) rfl ?_); refine goesL_ (some 32) rfl rfl Try.func16 (by kernel_rfl) rfl #[.slice A1 l1.length c1, .int .i64 t383] rfl zr ?_; (with_reducible refine (laws_szActS.calls k _ _ l1 t383 t384 _ ?side1 ?side2 A12.out).mono ?_); (case side1 => repeat (first | exact (Kd.C_below HR1.out HB.out) | (with_reducible refine Kd.C_alloc ?_ _) | (with_reducible refine Kd.C_drewN ?_ _) | (with_reducible refine Kd.C_drew ?_))); (case side2 => exact HC1.out); rintro e w30 ⟨rfl, hb⟩; refine ⟨_, rfl, ?_⟩; replace BK382 := zk hb BK382; replace HB := zs1 hb HB GE382; clear hb; obtain ⟨hcz31_0, hfz31_0⟩ := zc1 BK382.out) | ((with_reducible refine gate_callee (f := 10) rfl ?_); refine goesL_ (some 37) rfl rfl Try.func10 (by kernel_rfl) rfl #[.agg #[.slice A0_0 l0_0.length c0_0]] rfl zr ?_; (with_reducible refine (laws_toDisk.calls k _ _ l0_0 t385 _ ?side1 ?side2 A18.out).mono ?_); (case side1 => repeat (first | exact (Kd.C_below HR0_0.out HB.out) | (with_reducible refine Kd.C_alloc ?_ _) | (with_reducible refine Kd.C_drewN ?_ _) | (with_reducible refine Kd.C_drew ?_))); (case side2 => exact HC0_0.out); rintro e w32 ⟨v386, rfl, ho0, hb⟩; refine ⟨_, rfl, ?_⟩; have HO387 := am (Kd.R_lower ho0 (below_size (zb1 HB.out GE382.out))); replace BK382 := zk hb BK382; replace HB := zs1 hb HB GE382; clear hb ho0) | ((with_reducible refine gate_callee (f := 18) rfl ?_); refine goesL_ (some 39) rfl rfl Try.func18 (by kernel_rfl) rfl #[.slice A1 l1.length c1] rfl zr ?_; (with_reducible refine (laws_toActS.calls k _ _ l1 t388 _ ?side1 ?side2 A19.out).mono ?_); (case side1 => repeat (first | exact (Kd.C_below HR1.out HB.out) | (with_reducible refine Kd.C_alloc ?_ _) | (with_reducible refine Kd.C_drewN ?_ _) | (with_reducible refine Kd.C_drew ?_))); (case side2 => exact HC1.out); rintro e w33 ⟨v389, rfl, ho0, hb⟩; refine ⟨_, rfl, ?_⟩; have HO390 := am (Kd.R_lower ho0 (below_size (zb1 HB.out GE382.out))); replace HO387 := am (Kd.R_below (rx HO387.out) hb); replace BK382 := zk hb BK382; replace HB := zs1 hb HB GE382; clear hb ho0) | ((with_reducible refine gate_callee (f := 28) rfl ?_); refine goesL_ (some 42) rfl rfl Try.func28 (by kernel_rfl) rfl #[.slice A3 l3.length c3] rfl zr ?_; (with_reducible refine (laws_toIntS.calls k _ _ l3 t391 _ ?side1 ?side2 A20.out).mono ?_); (case side1 => repeat (first | exact (Kd.C_below HR3.out HB.out) | (with_reducible refine Kd.C_alloc ?_ _) | (with_reducible refine Kd.C_drewN ?_ _) | (with_reducible refine Kd.C_drew ?_))); (case side2 => exact HC3.out); rintro e w34 ⟨v392, rfl, ho0, hb⟩; refine ⟨_, rfl, ?_⟩; have HO393 := am (Kd.R_lower ho0 (below_size (zb1 HB.out GE382.out))); replace HO387 := am (Kd.R_below (rx HO387.out) hb); replace HO390 := am (Kd.R_below (rx HO390.out) hb); replace BK382 := zk hb BK382; replace HB := zs1 hb HB GE382; clear hb ho0; obtain ⟨Ao35, co35, eo35⟩ := Kd.R_slice HO387.out; subst eo35; obtain ⟨Ao36, co36, eo36⟩ := Kd.R_slice HO390.out; subst eo36; obtain ⟨Ao37, co37, eo37⟩ := Kd.R_slice HO393.out; subst eo37) | ((with_reducible refine gate_callee (f := 27) rfl ?_); refine goesL_ (some 43) rfl rfl Try.func27 (by kernel_rfl) rfl #[.agg #[.slice Ao35 t385.length co35], .slice Ao36 t388.length co36, .int .i64 a2, .slice Ao37 t391.length co37] rfl zr ?_; (with_reducible refine (spec_CutActs.calls k _ _ t385 _ _ t388 a2 _ _ t391 t394 t397 _ ?side1 ?side2 ?side3 ?side4 ?side5 ?side6 A21.out).mono ?_); (case side1 => repeat (first | exact (Kd.R_reads' HO387.out).2.2 | (with_reducible refine Kd.C_alloc ?_ _) | (with_reducible refine Kd.C_drewN ?_ _) | (with_reducible refine Kd.C_drew ?_))); (case side2 => exact (Kd.R_reads' HO387.out).2.1); (case side3 => repeat (first | exact (Kd.R_reads' HO390.out).2.2 | (with_reducible refine Kd.C_alloc ?_ _) | (with_reducible refine Kd.C_drewN ?_ _) | (with_reducible refine Kd.C_drew ?_))); (case side4 => exact (Kd.R_reads' HO390.out).2.1); (case side5 => repeat (first | exact (Kd.R_reads' HO393.out).2.2 | (with_reducible refine Kd.C_alloc ?_ _) | (with_reducible refine Kd.C_drewN ?_ _) | (with_reducible refine Kd.C_drew ?_))); (case side6 => exact (Kd.R_reads' HO393.out).2.1); rintro e w38 ⟨v395, rfl, ho0, hb⟩; refine ⟨_, rfl, ?_⟩; have HO396 := am (Kd.R_lower (Kd.R_new' ho0 (Kd.R_lt (rx HO387.out))) (below_size (zb1 HB.out GE382.out))); replace HO387 := am (Kd.R_elder' (rx HO387.out) (Kd.R_base ho0) hb); replace HO390 := am (Kd.R_below (rx HO390.out) hb); replace HO393 := am (Kd.R_below (rx HO393.out) hb); replace BK382 := zk hb BK382; replace HB := zs1 hb HB GE382; clear hb ho0) | ((with_reducible refine gate_dst (N := 10) rfl ?_); refine box_event rfl (N := 10) rfl (cs := #[.slice none 0 0]) (t := 31) zrun ?_; intro gb398 hg w39 hbox hb; have BK398 := am (hbox); have GE398 := zge hg (zb1 HB.out GE382.out); obtain ⟨NB382_398, NB398_382⟩ := zne hg BK382; replace HO387 := am (Kd.R_below (rx HO387.out) hb); replace HO390 := am (Kd.R_below (rx HO390.out) hb); replace HO393 := am (Kd.R_below (rx HO393.out) hb); replace HO396 := am (Kd.R_below (rx HO396.out) hb); replace BK382 := zk hb BK382; replace HB := zs1 hb HB GE382; clear hb hbox hg; obtain ⟨Ao40, co40, eo40⟩ := Kd.R_slice HO396.out; subst eo40; obtain ⟨hnb41, hnc41⟩ := zn2 NB398_382; obtain ⟨hcz42_0, hfz42_0⟩ := zc1 BK398.out; obtain ⟨hcz43_0, hfz43_0⟩ := zc1 BK382.out) | ((with_reducible refine gate_callee (f := 10) rfl ?_); refine goesL_ (some 47) rfl rfl Try.func10 (by kernel_rfl) rfl #[.agg #[.slice A0_0 l0_0.length c0_0]] rfl zr ?_; (with_reducible refine (laws_toDisk.calls k _ _ l0_0 t399 _ ?side1 ?side2 A22.out).mono ?_); (case side1 => exact Kd.C_below HR0_0.out (zb2 HB.out GE382.out GE398.out)); (case side2 => exact HC0_0.out); rintro e w44 ⟨v400, rfl, ho0, hb⟩; refine ⟨_, rfl, ?_⟩; have HO401 := am (Kd.R_lower (Kd.R_new' (Kd.R_new' ho0 (Kd.R_lt (rx ((Kd.R_mono (Kd.R_far (p := ⟨gb398, 0, none⟩) (Kd.R_types HO387.out BK398.out (by decide)) (fun _ hk => hk.2) (.slice Ao40 t394.length co40)) (fun _ h_ => h_.1)))))) (Kd.R_lt (rx ((Kd.R_mono (Kd.R_far (p := ⟨gb398, 0, none⟩) (Kd.R_types HO396.out BK398.out (by decide)) (fun _ hk => hk.2) (.slice Ao40 t394.length co40)) (fun _ h_ => h_.1)))))) (below_size (zb2 HB.out GE382.out GE398.out))); replace HO387 := am (Kd.R_elder' (rx ((Kd.R_mono (Kd.R_far (p := ⟨gb398, 0, none⟩) (Kd.R_types HO387.out BK398.out (by decide)) (fun _ hk => hk.2) (.slice Ao40 t394.length co40)) (fun _ h_ => h_.1)))) (Kd.R_base ho0) hb); replace HO390 := am (Kd.R_below (rx ((Kd.R_mono (Kd.R_far (p := ⟨gb398, 0, none⟩) (Kd.R_types HO390.out BK398.out (by decide)) (fun _ hk => hk.2) (.slice Ao40 t394.length co40)) (fun _ h_ => h_.1)))) hb); replace HO393 := am (Kd.R_below (rx ((Kd.R_mono (Kd.R_far (p := ⟨gb398, 0, none⟩) (Kd.R_types HO393.out BK398.out (by decide)) (fun _ hk => hk.2) (.slice Ao40 t394.length co40)) (fun _ h_ => h_.1)))) hb); replace HO396 := am (Kd.R_elder' (rx ((Kd.R_mono (Kd.R_far (p := ⟨gb398, 0, none⟩) (Kd.R_types HO396.out BK398.out (by decide)) (fun _ hk => hk.2) (.slice Ao40 t394.length co40)) (fun _ h_ => h_.1)))) (Kd.R_base ho0) hb); replace BK382 := zh1 hb BK382 NB382_398; replace BK398 := am (blk_below (g := gb398) (o := .cells #[.slice Ao40 t394.length co40] 31 (0, 0)) (by (with_reducible repeat (first | refine blk_drewN ?_ _ | refine blk_drew ?_ | refine blk_alloc ?_ _)); refine blk_put (cs := #[.slice none 0 0]) ?_ 0 _ rfl; (with_reducible repeat (first | refine blk_drewN ?_ _ | refine blk_drew ?_ | refine blk_alloc ?_ _)); exact BK398.out) hb); replace HB := zs2 hb HB GE382 GE398; clear hb ho0) | ((with_reducible refine gate_dst (N := 12) rfl ?_); refine box_event rfl (N := 12) rfl (cs := #[.slice none 0 0]) (t := 31) zrun ?_; intro gb402 hg w45 hbox hb; have BK402 := am (hbox); have GE402 := zge hg (zb2 HB.out GE382.out GE398.out); obtain ⟨NB382_402, NB402_382⟩ := zne hg BK382; obtain ⟨NB398_402, NB402_398⟩ := zne hg BK398; replace HO387 := am (Kd.R_below (rx HO387.out) hb); replace HO390 := am (Kd.R_below (rx HO390.out) hb); replace HO393 := am (Kd.R_below (rx HO393.out) hb); replace HO396 := am (Kd.R_below (rx HO396.out) hb); replace HO401 := am (Kd.R_below (rx HO401.out) hb); replace BK382 := zk hb BK382; replace BK398 := zk hb BK398; replace HB := zs2 hb HB GE382 GE398; clear hb hbox hg; obtain ⟨Ao46, co46, eo46⟩ := Kd.R_slice HO401.out; subst eo46; obtain ⟨hnb47, hnc47⟩ := zn2 NB402_382; obtain ⟨hnb48, hnc48⟩ := zn2 NB402_398; obtain ⟨hcz49_0, hfz49_0⟩ := zc1 BK402.out) | ((with_reducible refine gate_callee (f := 18) rfl ?_); refine goesL_ (some 49) rfl rfl Try.func18 (by kernel_rfl) rfl #[.slice A1 l1.length c1] rfl zr ?_; (with_reducible refine (laws_toActS.calls k _ _ l1 t403 _ ?side1 ?side2 A23.out).mono ?_); (case side1 => exact Kd.C_below HR1.out (zb3 HB.out GE382.out GE398.out GE402.out)); (case side2 => exact HC1.out); rintro e w50 ⟨v404, rfl, ho0, hb⟩; refine ⟨_, rfl, ?_⟩; have HO405 := am (Kd.R_lower (Kd.R_new' ho0 (Kd.R_lt (rx ((Kd.R_mono (Kd.R_far (p := ⟨gb402, 0, none⟩) (Kd.R_types HO390.out BK402.out (by decide)) (fun _ hk => hk.2) (.slice Ao46 t399.length co46)) (fun _ h_ => h_.1)))))) (below_size (zb3 HB.out GE382.out GE398.out GE402.out))); replace HO387 := am (Kd.R_below (rx ((Kd.R_mono (Kd.R_far (p := ⟨gb402, 0, none⟩) (Kd.R_types HO387.out BK402.out (by decide)) (fun _ hk => hk.2) (.slice Ao46 t399.length co46)) (fun _ h_ => h_.1)))) hb); replace HO390 := am (Kd.R_elder' (rx ((Kd.R_mono (Kd.R_far (p := ⟨gb402, 0, none⟩) (Kd.R_types HO390.out BK402.out (by decide)) (fun _ hk => hk.2) (.slice Ao46 t399.length co46)) (fun _ h_ => h_.1)))) (Kd.R_base ho0) hb); replace HO393 := am (Kd.R_below (rx ((Kd.R_mono (Kd.R_far (p := ⟨gb402, 0, none⟩) (Kd.R_types HO393.out BK402.out (by decide)) (fun _ hk => hk.2) (.slice Ao46 t399.length co46)) (fun _ h_ => h_.1)))) hb); replace HO396 := am (Kd.R_below (rx ((Kd.R_mono (Kd.R_far (p := ⟨gb402, 0, none⟩) (Kd.R_types HO396.out BK402.out (by decide)) (fun _ hk => hk.2) (.slice Ao46 t399.length co46)) (fun _ h_ => h_.1)))) hb); replace HO401 := am (Kd.R_below (rx ((Kd.R_mono (Kd.R_far (p := ⟨gb402, 0, none⟩) (Kd.R_types HO401.out BK402.out (by decide)) (fun _ hk => hk.2) (.slice Ao46 t399.length co46)) (fun _ h_ => h_.1)))) hb); replace BK382 := zh1 hb BK382 NB382_402; replace BK398 := zh1 hb BK398 NB398_402; replace BK402 := am (blk_below (g := gb402) (o := .cells #[.slice Ao46 t399.length co46] 31 (0, 0)) (by (with_reducible repeat (first | refine blk_drewN ?_ _ | refine blk_drew ?_ | refine blk_alloc ?_ _)); refine blk_put (cs := #[.slice none 0 0]) ?_ 0 _ rfl; (with_reducible repeat (first | refine blk_drewN ?_ _ | refine blk_drew ?_ | refine blk_alloc ?_ _)); exact BK402.out) hb); replace HB := zs3 hb HB GE382 GE398 GE402; clear hb ho0) | ((with_reducible refine gate_callee (f := 28) rfl ?_); refine goesL_ (some 51) rfl rfl Try.func28 (by kernel_rfl) rfl #[.slice A3 l3.length c3] rfl zr ?_; (with_reducible refine (laws_toIntS.calls k _ _ l3 t406 _ ?side1 ?side2 A24.out).mono ?_); (case side1 => repeat (first | exact (Kd.C_below HR3.out HB.out) | (with_reducible refine Kd.C_alloc ?_ _) | (with_reducible refine Kd.C_drewN ?_ _) | (with_reducible refine Kd.C_drew ?_))); (case side2 => exact HC3.out); rintro e w51 ⟨v407, rfl, ho0, hb⟩; refine ⟨_, rfl, ?_⟩; have HO408 := am (Kd.R_lower (Kd.R_new' ho0 (Kd.R_lt (rx HO393.out))) (below_size (zb3 HB.out GE382.out GE398.out GE402.out))); replace HO387 := am (Kd.R_below (rx HO387.out) hb); replace HO390 := am (Kd.R_below (rx HO390.out) hb); replace HO393 := am (Kd.R_elder' (rx HO393.out) (Kd.R_base ho0) hb); replace HO396 := am (Kd.R_below (rx HO396.out) hb); replace HO401 := am (Kd.R_below (rx HO401.out) hb); replace HO405 := am (Kd.R_below (rx HO405.out) hb); replace BK382 := zk hb BK382; replace BK398 := zk hb BK398; replace BK402 := zk hb BK402; replace HB := zs3 hb HB GE382 GE398 GE402; clear hb ho0; obtain ⟨hcz52_0, hfz52_0⟩ := zc1 BK402.out; obtain ⟨Ao53, co53, eo53⟩ := Kd.R_slice HO405.out; subst eo53; obtain ⟨Ao54, co54, eo54⟩ := Kd.R_slice HO408.out; subst eo54) | ((with_reducible refine gate_callee (f := 26) rfl ?_); refine goesL_ (some 57) rfl rfl Try.func26 (by kernel_rfl) rfl #[.agg #[.slice Ao46 t399.length co46], .slice Ao53 t403.length co53, .int .i64 a2, .slice Ao54 t406.length co54] rfl zr ?_; (with_reducible refine (impl_CutActs.calls k _ _ t399 _ _ t403 a2 _ _ t406 t409 t412 _ ?side1 ?side2 ?side3 ?side4 ?side5 ?side6 A25.out).mono ?_); (case side1 => repeat (first | exact (Kd.R_reads' HO401.out).2.2 | (with_reducible refine Kd.C_alloc ?_ _) | (with_reducible refine Kd.C_drewN ?_ _) | (with_reducible refine Kd.C_drew ?_))); (case side2 => exact (Kd.R_reads' HO401.out).2.1); (case side3 => repeat (first | exact (Kd.R_reads' HO405.out).2.2 | (with_reducible refine Kd.C_alloc ?_ _) | (with_reducible refine Kd.C_drewN ?_ _) | (with_reducible refine Kd.C_drew ?_))); (case side4 => exact (Kd.R_reads' HO405.out).2.1); (case side5 => repeat (first | exact (Kd.R_reads' HO408.out).2.2 | (with_reducible refine Kd.C_alloc ?_ _) | (with_reducible refine Kd.C_drewN ?_ _) | (with_reducible refine Kd.C_drew ?_))); (case side6 => exact (Kd.R_reads' HO408.out).2.1); rintro e w55 ⟨v410, rfl, ho0, hb⟩; refine ⟨_, rfl, ?_⟩; have HO411 := am (Kd.R_lower (Kd.R_new' (Kd.R_new' (Kd.R_new' ho0 (Kd.R_lt (rx HO387.out))) (Kd.R_lt (rx HO396.out))) (Kd.R_lt (rx HO401.out))) (below_size (zb3 HB.out GE382.out GE398.out GE402.out))); replace HO387 := am (Kd.R_elder' (rx HO387.out) (Kd.R_base ho0) hb); replace HO390 := am (Kd.R_below (rx HO390.out) hb); replace HO393 := am (Kd.R_below (rx HO393.out) hb); replace HO396 := am (Kd.R_elder' (rx HO396.out) (Kd.R_base ho0) hb); replace HO401 := am (Kd.R_elder' (rx HO401.out) (Kd.R_base ho0) hb); replace HO405 := am (Kd.R_below (rx HO405.out) hb); replace HO408 := am (Kd.R_below (rx HO408.out) hb); replace BK382 := zk hb BK382; replace BK398 := zk hb BK398; replace BK402 := zk hb BK402; replace HB := zs3 hb HB GE382 GE398 GE402; clear hb ho0) | ((with_reducible refine gate_dst (N := 15) rfl ?_); refine box_event rfl (N := 15) rfl (cs := #[.slice none 0 0]) (t := 31) zrun ?_; intro gb413 hg w56 hbox hb; have BK413 := am (hbox); have GE413 := zge hg (zb3 HB.out GE382.out GE398.out GE402.out); obtain ⟨NB382_413, NB413_382⟩ := zne hg BK382; obtain ⟨NB398_413, NB413_398⟩ := zne hg BK398; obtain ⟨NB402_413, NB413_402⟩ := zne hg BK402; replace HO387 := am (Kd.R_below (rx HO387.out) hb); replace HO390 := am (Kd.R_below (rx HO390.out) hb); replace HO393 := am (Kd.R_below (rx HO393.out) hb); replace HO396 := am (Kd.R_below (rx HO396.out) hb); replace HO401 := am (Kd.R_below (rx HO401.out) hb); replace HO405 := am (Kd.R_below (rx HO405.out) hb); replace HO408 := am (Kd.R_below (rx HO408.out) hb); replace HO411 := am (Kd.R_below (rx HO411.out) hb); replace BK382 := zk hb BK382; replace BK398 := zk hb BK398; replace BK402 := zk hb BK402; replace HB := zs3 hb HB GE382 GE398 GE402; clear hb hbox hg; obtain ⟨Ao57, co57, eo57⟩ := Kd.R_slice HO411.out; subst eo57; obtain ⟨hnb58, hnc58⟩ := zn2 NB413_382; obtain ⟨hnb59, hnc59⟩ := zn2 NB413_398; obtain ⟨hnb60, hnc60⟩ := zn2 NB413_402; obtain ⟨hcz61_0, hfz61_0⟩ := zc1 BK413.out))
    (try simp only [Act.put, List.setIfInBounds_toArray, List.set_cons_zero, List.set_cons_succ])
    go_cut [68] (fun v68 wc => ∃ (kq : Nat) (x68_25 : Bool), v68 = .bool x68_25 ∧ Aside0 (laws_FnExactCutActs.j0 kq l1 a2 l3 t397 t403 t406 t412 x68_25 l0_0 t394 t399 t409 = some r) ∧ Aside0 (kq ≤ k) ∧ Aside0 (Kd.R k35 35 wc w.heap.size (fun _ => True) (.slice Ao53 t403.length co53) t403) ∧ Aside0 (Kd.R (Kd.int .i64) 3 wc w.heap.size (fun _ => True) (.slice Ao54 t406.length co54) t406) ∧ Aside0 (Kd.R k66 66 wc w.heap.size (fun k_ => some k_ ≠ ((.slice Ao46 t399.length co46) : Value).ownBlock ∧ some k_ ≠ ((.slice Ao57 t409.length co57) : Value).ownBlock) (.slice Ao40 t394.length co40) t394) ∧ Aside0 (Kd.R k66 66 wc w.heap.size (fun k_ => some k_ ≠ ((.slice Ao40 t394.length co40) : Value).ownBlock ∧ some k_ ≠ ((.slice Ao57 t409.length co57) : Value).ownBlock) (.slice Ao46 t399.length co46) t399) ∧ Aside0 (Kd.R k66 66 wc w.heap.size (fun k_ => some k_ ≠ ((.slice Ao40 t394.length co40) : Value).ownBlock ∧ some k_ ≠ ((.slice Ao46 t399.length co46) : Value).ownBlock) (.slice Ao57 t409.length co57) t409) ∧ Aside0 (wc.heap[gb382]? = some (.cells #[(.slice A0_0 l0_0.length c0_0)] 24 (0, 0))) ∧ Aside0 (wc.heap[gb398]? = some (.cells #[(.slice Ao40 t394.length co40)] 31 (0, 0))) ∧ Aside0 (wc.heap[gb402]? = some (.cells #[(.slice Ao46 t399.length co46)] 31 (0, 0))) ∧ Aside0 (wc.heap[gb413]? = some (.cells #[(.slice Ao57 t409.length co57)] 31 (0, 0))) ∧ Aside0 (Below w.heap.size w wc))
    case first =>
     have H := HC26.out
     clear HC26
     replace H := Option.bind_eq_some_iff.mp H
     obtain ⟨t414, A620, H⟩ := H
     try dsimp only at H
     have A62 := Aside0.mk A620
     clear A620
     by_cases c63 : t414 = true
     ·subst c63
      have H1 : (laws_FnExactCutActs.j0 k l1 a2 l3 t397 t403 t406 t412 (t412 != t397) l0_0 t394 t399 t409) = some r := by rw [if_pos rfl] at H; exact H
      clear H
      have H := H1
      clear H1
      have H' := Aside0.mk H
      clear H
      obtain ⟨hnb64, hnc64⟩ := zn2 NB413_382
      obtain ⟨hnb65, hnc65⟩ := zn2 NB413_398
      obtain ⟨hnb66, hnc66⟩ := zn2 NB413_402
      obtain ⟨hcz67_0, hfz67_0⟩ := zc1 BK413.out
      obtain ⟨hnb68, hnc68⟩ := zn2 NB398_382
      obtain ⟨hnb69, hnc69⟩ := zn2 NB398_402
      obtain ⟨hcz70_0, hfz70_0⟩ := zc1 BK398.out
      go_wp2_with (first | ((with_reducible refine gate_callee (f := 13) rfl ?_); refine goesL_ (some 62) rfl rfl Try.func13 (by kernel_rfl) rfl #[.agg #[.slice Ao57 t409.length co57], .agg #[.slice Ao40 t394.length co40]] rfl zr ?_; (with_reducible refine (laws_eqDisk.calls k _ _ t409 _ _ t394 true _ ?side1 ?side2 ?side3 ?side4 A62.out).mono ?_); (case side1 => refine (Kd.R_reads' (e := 66) (base := w.heap.size) (ok := fun k_ => (((True ∧ some k_ ≠ (.slice Ao35 t385.length co35 : Value).ownBlock) ∧ some k_ ≠ (.slice Ao40 t394.length co40 : Value).ownBlock) ∧ some k_ ≠ (.slice Ao46 t399.length co46 : Value).ownBlock)) (n := t409.length) (c := co57) ?_).2.2; exact (rx ((Kd.R_mono (Kd.R_far (p := ⟨gb413, 0, none⟩) (Kd.R_types HO411.out BK413.out (by decide)) (fun _ hk => hk.2) (.slice Ao57 t409.length co57)) (fun _ h_ => h_.1))))); (case side2 => exact (Kd.R_reads' HO411.out).2.1); (case side3 => refine (Kd.R_reads' (e := 66) (base := w.heap.size) (ok := fun k_ => (((True ∧ some k_ ≠ (.slice Ao35 t385.length co35 : Value).ownBlock) ∧ some k_ ≠ (.slice Ao46 t399.length co46 : Value).ownBlock) ∧ some k_ ≠ (.slice Ao57 t409.length co57 : Value).ownBlock)) (n := t394.length) (c := co40) ?_).2.2; exact (rx ((Kd.R_mono (Kd.R_far (p := ⟨gb413, 0, none⟩) (Kd.R_types HO396.out BK413.out (by decide)) (fun _ hk => hk.2) (.slice Ao57 t409.length co57)) (fun _ h_ => h_.1))))); (case side4 => exact (Kd.R_reads' HO396.out).2.1); rintro e w71 ⟨rfl, hb⟩; refine ⟨_, rfl, ?_⟩; replace HO387 := am (Kd.R_below (rx ((Kd.R_mono (Kd.R_far (p := ⟨gb413, 0, none⟩) (Kd.R_types HO387.out BK413.out (by decide)) (fun _ hk => hk.2) (.slice Ao57 t409.length co57)) (fun _ h_ => h_.1)))) hb); replace HO390 := am (Kd.R_below (rx ((Kd.R_mono (Kd.R_far (p := ⟨gb413, 0, none⟩) (Kd.R_types HO390.out BK413.out (by decide)) (fun _ hk => hk.2) (.slice Ao57 t409.length co57)) (fun _ h_ => h_.1)))) hb); replace HO393 := am (Kd.R_below (rx ((Kd.R_mono (Kd.R_far (p := ⟨gb413, 0, none⟩) (Kd.R_types HO393.out BK413.out (by decide)) (fun _ hk => hk.2) (.slice Ao57 t409.length co57)) (fun _ h_ => h_.1)))) hb); replace HO396 := am (Kd.R_below (rx ((Kd.R_mono (Kd.R_far (p := ⟨gb413, 0, none⟩) (Kd.R_types HO396.out BK413.out (by decide)) (fun _ hk => hk.2) (.slice Ao57 t409.length co57)) (fun _ h_ => h_.1)))) hb); replace HO401 := am (Kd.R_below (rx ((Kd.R_mono (Kd.R_far (p := ⟨gb413, 0, none⟩) (Kd.R_types HO401.out BK413.out (by decide)) (fun _ hk => hk.2) (.slice Ao57 t409.length co57)) (fun _ h_ => h_.1)))) hb); replace HO405 := am (Kd.R_below (rx ((Kd.R_mono (Kd.R_far (p := ⟨gb413, 0, none⟩) (Kd.R_types HO405.out BK413.out (by decide)) (fun _ hk => hk.2) (.slice Ao57 t409.length co57)) (fun _ h_ => h_.1)))) hb); replace HO408 := am (Kd.R_below (rx ((Kd.R_mono (Kd.R_far (p := ⟨gb413, 0, none⟩) (Kd.R_types HO408.out BK413.out (by decide)) (fun _ hk => hk.2) (.slice Ao57 t409.length co57)) (fun _ h_ => h_.1)))) hb); replace HO411 := am (Kd.R_below (rx ((Kd.R_mono (Kd.R_far (p := ⟨gb413, 0, none⟩) (Kd.R_types HO411.out BK413.out (by decide)) (fun _ hk => hk.2) (.slice Ao57 t409.length co57)) (fun _ h_ => h_.1)))) hb); replace BK382 := zh1 hb BK382 NB382_413; replace BK398 := zh1 hb BK398 NB398_413; replace BK402 := zh1 hb BK402 NB402_413; replace BK413 := am (blk_below (g := gb413) (o := .cells #[.slice Ao57 t409.length co57] 31 (0, 0)) (by (with_reducible repeat (first | refine blk_drewN ?_ _ | refine blk_drew ?_ | refine blk_alloc ?_ _)); refine blk_put (cs := #[.slice none 0 0]) ?_ 0 _ rfl; (with_reducible repeat (first | refine blk_drewN ?_ _ | refine blk_drew ?_ | refine blk_alloc ?_ _)); exact BK413.out) hb); replace HB := zs4 hb HB GE382 GE398 GE402 GE413; clear hb))
      go_meet
      case rel => exact ⟨_, ((t412 != t397)), (by first | rfl | (simp; done) | (simp [*]; done)), H', ⟨by first | omega | exact Nat.le_refl _⟩, ⟨rx (Kd.R_mono HO405.out (fun _ hk => trivial))⟩, ⟨rx (Kd.R_mono HO408.out (fun _ hk => trivial))⟩, ⟨rx (Kd.R_mono HO396.out (fun _ hk => ⟨hk.1.2, hk.2⟩))⟩, ⟨rx (Kd.R_mono HO401.out (fun _ hk => ⟨hk.1.2, hk.2⟩))⟩, ⟨rx (Kd.R_mono HO411.out (fun _ hk => ⟨hk.1.2, hk.2⟩))⟩, ⟨kx BK382.out⟩, ⟨kx BK398.out⟩, ⟨kx BK402.out⟩, ⟨kx BK413.out⟩, ⟨zb4 HB.out GE382.out GE398.out GE402.out GE413.out⟩⟩
     ·replace c63 := Bool.eq_false_iff.mpr c63
      subst c63
      have H1 : (laws_FnExactCutActs.j0 k l1 a2 l3 t397 t403 t406 t412 true l0_0 t394 t399 t409) = some r := by rw [if_neg (show ¬ (false = true) by decide)] at H; exact H
      clear H
      have H := H1
      clear H1
      have H' := Aside0.mk H
      clear H
      obtain ⟨hnb72, hnc72⟩ := zn2 NB413_382
      obtain ⟨hnb73, hnc73⟩ := zn2 NB413_398
      obtain ⟨hnb74, hnc74⟩ := zn2 NB413_402
      obtain ⟨hcz75_0, hfz75_0⟩ := zc1 BK413.out
      obtain ⟨hnb76, hnc76⟩ := zn2 NB398_382
      obtain ⟨hnb77, hnc77⟩ := zn2 NB398_402
      obtain ⟨hcz78_0, hfz78_0⟩ := zc1 BK398.out
      go_wp2_with (first | ((with_reducible refine gate_callee (f := 13) rfl ?_); refine goesL_ (some 62) rfl rfl Try.func13 (by kernel_rfl) rfl #[.agg #[.slice Ao57 t409.length co57], .agg #[.slice Ao40 t394.length co40]] rfl zr ?_; (with_reducible refine (laws_eqDisk.calls k _ _ t409 _ _ t394 false _ ?side1 ?side2 ?side3 ?side4 A62.out).mono ?_); (case side1 => refine (Kd.R_reads' (e := 66) (base := w.heap.size) (ok := fun k_ => (((True ∧ some k_ ≠ (.slice Ao35 t385.length co35 : Value).ownBlock) ∧ some k_ ≠ (.slice Ao40 t394.length co40 : Value).ownBlock) ∧ some k_ ≠ (.slice Ao46 t399.length co46 : Value).ownBlock)) (n := t409.length) (c := co57) ?_).2.2; exact (rx ((Kd.R_mono (Kd.R_far (p := ⟨gb413, 0, none⟩) (Kd.R_types HO411.out BK413.out (by decide)) (fun _ hk => hk.2) (.slice Ao57 t409.length co57)) (fun _ h_ => h_.1))))); (case side2 => exact (Kd.R_reads' HO411.out).2.1); (case side3 => refine (Kd.R_reads' (e := 66) (base := w.heap.size) (ok := fun k_ => (((True ∧ some k_ ≠ (.slice Ao35 t385.length co35 : Value).ownBlock) ∧ some k_ ≠ (.slice Ao46 t399.length co46 : Value).ownBlock) ∧ some k_ ≠ (.slice Ao57 t409.length co57 : Value).ownBlock)) (n := t394.length) (c := co40) ?_).2.2; exact (rx ((Kd.R_mono (Kd.R_far (p := ⟨gb413, 0, none⟩) (Kd.R_types HO396.out BK413.out (by decide)) (fun _ hk => hk.2) (.slice Ao57 t409.length co57)) (fun _ h_ => h_.1))))); (case side4 => exact (Kd.R_reads' HO396.out).2.1); rintro e w79 ⟨rfl, hb⟩; refine ⟨_, rfl, ?_⟩; replace HO387 := am (Kd.R_below (rx ((Kd.R_mono (Kd.R_far (p := ⟨gb413, 0, none⟩) (Kd.R_types HO387.out BK413.out (by decide)) (fun _ hk => hk.2) (.slice Ao57 t409.length co57)) (fun _ h_ => h_.1)))) hb); replace HO390 := am (Kd.R_below (rx ((Kd.R_mono (Kd.R_far (p := ⟨gb413, 0, none⟩) (Kd.R_types HO390.out BK413.out (by decide)) (fun _ hk => hk.2) (.slice Ao57 t409.length co57)) (fun _ h_ => h_.1)))) hb); replace HO393 := am (Kd.R_below (rx ((Kd.R_mono (Kd.R_far (p := ⟨gb413, 0, none⟩) (Kd.R_types HO393.out BK413.out (by decide)) (fun _ hk => hk.2) (.slice Ao57 t409.length co57)) (fun _ h_ => h_.1)))) hb); replace HO396 := am (Kd.R_below (rx ((Kd.R_mono (Kd.R_far (p := ⟨gb413, 0, none⟩) (Kd.R_types HO396.out BK413.out (by decide)) (fun _ hk => hk.2) (.slice Ao57 t409.length co57)) (fun _ h_ => h_.1)))) hb); replace HO401 := am (Kd.R_below (rx ((Kd.R_mono (Kd.R_far (p := ⟨gb413, 0, none⟩) (Kd.R_types HO401.out BK413.out (by decide)) (fun _ hk => hk.2) (.slice Ao57 t409.length co57)) (fun _ h_ => h_.1)))) hb); replace HO405 := am (Kd.R_below (rx ((Kd.R_mono (Kd.R_far (p := ⟨gb413, 0, none⟩) (Kd.R_types HO405.out BK413.out (by decide)) (fun _ hk => hk.2) (.slice Ao57 t409.length co57)) (fun _ h_ => h_.1)))) hb); replace HO408 := am (Kd.R_below (rx ((Kd.R_mono (Kd.R_far (p := ⟨gb413, 0, none⟩) (Kd.R_types HO408.out BK413.out (by decide)) (fun _ hk => hk.2) (.slice Ao57 t409.length co57)) (fun _ h_ => h_.1)))) hb); replace HO411 := am (Kd.R_below (rx ((Kd.R_mono (Kd.R_far (p := ⟨gb413, 0, none⟩) (Kd.R_types HO411.out BK413.out (by decide)) (fun _ hk => hk.2) (.slice Ao57 t409.length co57)) (fun _ h_ => h_.1)))) hb); replace BK382 := zh1 hb BK382 NB382_413; replace BK398 := zh1 hb BK398 NB398_413; replace BK402 := zh1 hb BK402 NB402_413; replace BK413 := am (blk_below (g := gb413) (o := .cells #[.slice Ao57 t409.length co57] 31 (0, 0)) (by (with_reducible repeat (first | refine blk_drewN ?_ _ | refine blk_drew ?_ | refine blk_alloc ?_ _)); refine blk_put (cs := #[.slice none 0 0]) ?_ 0 _ rfl; (with_reducible repeat (first | refine blk_drewN ?_ _ | refine blk_drew ?_ | refine blk_alloc ?_ _)); exact BK413.out) hb); replace HB := zs4 hb HB GE382 GE398 GE402 GE413; clear hb))
      go_meet
      case rel => exact ⟨_, (true), (by first | rfl | (simp; done) | (simp [*]; done)), H', ⟨by first | omega | exact Nat.le_refl _⟩, ⟨rx (Kd.R_mono HO405.out (fun _ hk => trivial))⟩, ⟨rx (Kd.R_mono HO408.out (fun _ hk => trivial))⟩, ⟨rx (Kd.R_mono HO396.out (fun _ hk => ⟨hk.1.2, hk.2⟩))⟩, ⟨rx (Kd.R_mono HO401.out (fun _ hk => ⟨hk.1.2, hk.2⟩))⟩, ⟨rx (Kd.R_mono HO411.out (fun _ hk => ⟨hk.1.2, hk.2⟩))⟩, ⟨kx BK382.out⟩, ⟨kx BK398.out⟩, ⟨kx BK402.out⟩, ⟨kx BK413.out⟩, ⟨zb4 HB.out GE382.out GE398.out GE402.out GE413.out⟩⟩
    case rest =>
     clear HC26
     obtain ⟨kq, x68_25, rfl, HA, HJ25, HO_13, HO_14, HO_399000, HO_403000, HO_414000, BK382, BK398, BK402, BK413, HB⟩ := hcut
     cases kq with
     | zero => exact absurd HA.out (by simp [laws_FnExactCutActs.j0])
     | succ kj25 =>
      have H := HA.out
      clear HA
      simp only [laws_FnExactCutActs.j0] at H
      by_cases c80 : x68_25 = true
      ·subst c80
       have H1 : (some false) = some r := by rw [if_pos rfl] at H; exact H
       clear H
       have H := H1
       clear H1
       exact absurd ((Option.some.inj H).trans HLT.out) (by decide)
      ·replace c80 := Bool.eq_false_iff.mpr c80
       subst c80
       have H1 : ((laws_toDisk.f kj25 l0_0).bind fun t415 => ((laws_eqDisk.f kj25 t399 t415).bind fun t418 => (if t418 = true then ((laws_toActS.f kj25 l1).bind fun t419 => ((laws_eqActS.f kj25 t403 t419).bind fun t422 => (if t422 = true then ((laws_toIntS.f kj25 l3).bind fun t423 => ((laws_eqIntS.f kj25 t406 t423).bind fun t426 => (if t426 = true then ((laws_markDisk.f kj25 t399 1).bind fun bt427 => ((laws_markActS.f kj25 t403 bt427.1).bind fun bt429 => ((laws_markIntS.f kj25 t406 bt429.1).bind fun bt431 => (if bt431.1 < 0 then (laws_FnExactCutActs.j1 kj25 l1 a2 l3 t397 true l0_0 t394 t409) else ((laws_eqDisk.f kj25 t409 t394).bind fun t433 => (if t433 = true then (laws_FnExactCutActs.j1 kj25 l1 a2 l3 t397 (t412 != t397) l0_0 t394 t409) else (laws_FnExactCutActs.j1 kj25 l1 a2 l3 t397 true l0_0 t394 t409))))))) else (some false)))) else (some false)))) else (some false)))) = some r := by rw [if_neg (show ¬ (false = true) by decide)] at H; exact H
       clear H
       have H := H1
       clear H1
       replace H := Option.bind_eq_some_iff.mp H
       obtain ⟨t415, A810, H⟩ := H
       try dsimp only at H
       have A81 := Aside0.mk A810
       clear A810
       replace H := Option.bind_eq_some_iff.mp H
       obtain ⟨t418, A820, H⟩ := H
       try dsimp only at H
       have A82 := Aside0.mk A820
       clear A820
       by_cases c83 : t418 = true
       ·subst c83
        have H1 : ((laws_toActS.f kj25 l1).bind fun t419 => ((laws_eqActS.f kj25 t403 t419).bind fun t422 => (if t422 = true then ((laws_toIntS.f kj25 l3).bind fun t423 => ((laws_eqIntS.f kj25 t406 t423).bind fun t426 => (if t426 = true then ((laws_markDisk.f kj25 t399 1).bind fun bt427 => ((laws_markActS.f kj25 t403 bt427.1).bind fun bt429 => ((laws_markIntS.f kj25 t406 bt429.1).bind fun bt431 => (if bt431.1 < 0 then (laws_FnExactCutActs.j1 kj25 l1 a2 l3 t397 true l0_0 t394 t409) else ((laws_eqDisk.f kj25 t409 t394).bind fun t433 => (if t433 = true then (laws_FnExactCutActs.j1 kj25 l1 a2 l3 t397 (t412 != t397) l0_0 t394 t409) else (laws_FnExactCutActs.j1 kj25 l1 a2 l3 t397 true l0_0 t394 t409))))))) else (some false)))) else (some false)))) = some r := by rw [if_pos rfl] at H; exact H
        clear H
        have H := H1
        clear H1
        replace H := Option.bind_eq_some_iff.mp H
        obtain ⟨t419, A840, H⟩ := H
        try dsimp only at H
        have A84 := Aside0.mk A840
        clear A840
        replace H := Option.bind_eq_some_iff.mp H
        obtain ⟨t422, A850, H⟩ := H
        try dsimp only at H
        have A85 := Aside0.mk A850
        clear A850
        by_cases c86 : t422 = true
        ·subst c86
         have H1 : ((laws_toIntS.f kj25 l3).bind fun t423 => ((laws_eqIntS.f kj25 t406 t423).bind fun t426 => (if t426 = true then ((laws_markDisk.f kj25 t399 1).bind fun bt427 => ((laws_markActS.f kj25 t403 bt427.1).bind fun bt429 => ((laws_markIntS.f kj25 t406 bt429.1).bind fun bt431 => (if bt431.1 < 0 then (laws_FnExactCutActs.j1 kj25 l1 a2 l3 t397 true l0_0 t394 t409) else ((laws_eqDisk.f kj25 t409 t394).bind fun t433 => (if t433 = true then (laws_FnExactCutActs.j1 kj25 l1 a2 l3 t397 (t412 != t397) l0_0 t394 t409) else (laws_FnExactCutActs.j1 kj25 l1 a2 l3 t397 true l0_0 t394 t409))))))) else (some false)))) = some r := by rw [if_pos rfl] at H; exact H
         clear H
         have H := H1
         clear H1
         replace H := Option.bind_eq_some_iff.mp H
         obtain ⟨t423, A870, H⟩ := H
         try dsimp only at H
         have A87 := Aside0.mk A870
         clear A870
         replace H := Option.bind_eq_some_iff.mp H
         obtain ⟨t426, A880, H⟩ := H
         try dsimp only at H
         have A88 := Aside0.mk A880
         clear A880
         by_cases c89 : t426 = true
         ·subst c89
          have H1 : ((laws_markDisk.f kj25 t399 1).bind fun bt427 => ((laws_markActS.f kj25 t403 bt427.1).bind fun bt429 => ((laws_markIntS.f kj25 t406 bt429.1).bind fun bt431 => (if bt431.1 < 0 then (laws_FnExactCutActs.j1 kj25 l1 a2 l3 t397 true l0_0 t394 t409) else ((laws_eqDisk.f kj25 t409 t394).bind fun t433 => (if t433 = true then (laws_FnExactCutActs.j1 kj25 l1 a2 l3 t397 (t412 != t397) l0_0 t394 t409) else (laws_FnExactCutActs.j1 kj25 l1 a2 l3 t397 true l0_0 t394 t409))))))) = some r := by rw [if_pos rfl] at H; exact H
          clear H
          have H := H1
          clear H1
          replace H := Option.bind_eq_some_iff.mp H
          obtain ⟨⟨t427, t428⟩, A900, H⟩ := H
          try dsimp only at H
          have A90 := Aside0.mk A900
          clear A900
          replace H := Option.bind_eq_some_iff.mp H
          obtain ⟨⟨t429, t430⟩, A910, H⟩ := H
          try dsimp only at H
          have A91 := Aside0.mk A910
          clear A910
          replace H := Option.bind_eq_some_iff.mp H
          obtain ⟨⟨t431, t432⟩, A920, H⟩ := H
          try dsimp only at H
          have A92 := Aside0.mk A920
          clear A920
          have HC93 := Aside0.mk H
          clear H
          try go_wp2
          replace HO_13 := am (Kd.R_drew HO_13.out)
          replace HO_14 := am (Kd.R_drew HO_14.out)
          replace HO_399000 := am (Kd.R_drew HO_399000.out)
          replace HO_403000 := am (Kd.R_drew HO_403000.out)
          replace HO_414000 := am (Kd.R_drew HO_414000.out)
          replace BK382 := am (blk_drew BK382.out)
          replace BK398 := am (blk_drew BK398.out)
          replace BK402 := am (blk_drew BK402.out)
          replace BK413 := am (blk_drew BK413.out)
          replace HB := am (below_drew1 HB.out)
          refine start_ (n := 5) (S := fun w' => w'.cell? ⟨gb402, 0, none⟩ = some (.slice Ao46 t399.length co46) ∧ w'.cell? ⟨gb382, 0, none⟩ = some (.slice A0_0 l0_0.length c0_0)) (ds := []) #[false, false, false, false, false] (by kernel_rfl) rfl rfl ⟨ct BK402.out 0, ct BK382.out 0⟩ (fun hHeld => ?_)
          generalize wc.drew = w94 at HO_13 HO_14 HO_399000 HO_403000 HO_414000 BK382 BK398 BK402 BK413 HB hHeld ⊢
          refine take_ (i := 0) (N := some 69) (v := ?_) (a' := ?_) #[true, false, false, false, false] rfl rfl (by kernel_rfl) (fun _ _ _ h => h) (Or.inl ⟨by rfl, ?_⟩) hHeld ?_ ?_
          rotate_left
          ·rintro w' ⟨s0, s1⟩
           go_simp
           with_reducible rfl
          rotate_left
          ·simp only [Act.put, List.setIfInBounds_toArray, List.set_cons_zero, List.set_cons_succ, i64_w, i32_w]
           rfl
          refine take_ (i := 1) (N := some 70) (v := ?_) (a' := ?_) #[true, true, false, false, false] rfl rfl (by kernel_rfl) (fun _ _ _ h => h) (Or.inl ⟨by rfl, ?_⟩) hHeld ?_ ?_
          rotate_left
          ·rintro w' ⟨s0, s1⟩
           go_simp
           with_reducible rfl
          rotate_left
          ·simp only [Act.put, List.setIfInBounds_toArray, List.set_cons_zero, List.set_cons_succ, i64_w, i32_w]
           rfl
          refine one_ (i := 2) (N := some 71) #[true, true, true, false, false] rfl rfl (by kernel_rfl) (by decide) (fun K hK => ?_)
          refine goes_ Try.func10 (by kernel_rfl) rfl #[.agg #[.slice A0_0 l0_0.length c0_0]] (by rfl) rfl rfl zr ?_
          with_reducible refine (laws_toDisk.calls kj25 _ _ l0_0 t415 _ ?side1 ?side2 A81.out).mono ?_
          (case side1 => repeat (first | exact (Kd.C_below HR0_0.out HB.out) | (with_reducible refine Kd.C_alloc ?_ _) | (with_reducible refine Kd.C_drewN ?_ _) | (with_reducible refine Kd.C_drew ?_)))
          (case side2 => exact HC0_0.out)
          rintro e w95 ⟨v416, rfl, ho0, hb⟩
          refine ⟨_, rfl, ?_⟩
          have HO417 := am (Kd.R_lower (Kd.R_new' (Kd.R_new' (Kd.R_new' ho0 (Kd.R_lt (rx HO_399000.out))) (Kd.R_lt (rx HO_403000.out))) (Kd.R_lt (rx HO_414000.out))) (below_size (zb4 HB.out GE382.out GE398.out GE402.out GE413.out)))
          replace HO_13 := am (Kd.R_below (rx HO_13.out) hb)
          replace HO_14 := am (Kd.R_below (rx HO_14.out) hb)
          replace HO_399000 := am (Kd.R_elder' (rx HO_399000.out) (Kd.R_base ho0) hb)
          replace HO_403000 := am (Kd.R_elder' (rx HO_403000.out) (Kd.R_base ho0) hb)
          replace HO_414000 := am (Kd.R_elder' (rx HO_414000.out) (Kd.R_base ho0) hb)
          replace BK382 := zk hb BK382
          replace BK398 := zk hb BK398
          replace BK402 := zk hb BK402
          replace BK413 := zk hb BK413
          replace HB := zs4 hb HB GE382 GE398 GE402 GE413
          obtain ⟨Ao96, co96, eo96⟩ := Kd.R_slice HO417.out
          (first | subst eo96 | (injection eo96 with f1_ f2_ f3_; have f4_ := f1_.symm; have f5_ := f3_.symm; clear f1_ f2_ f3_; subst f4_; subst f5_))
          refine hK.out _ _ ⟨ct BK402.out 0, ct BK382.out 0⟩ (fun hHeld => ?_)
          clear hK K
          refine znm 71 ?_
          refine one_ (i := 3) (N := some 72) #[true, true, true, true, false] rfl rfl (by kernel_rfl) (by decide) (fun K hK => ?_)
          refine goes_ Try.func13 (by kernel_rfl) rfl #[.agg #[.slice Ao46 t399.length co46], .agg #[.slice Ao96 t415.length co96]] (by rfl) rfl rfl zr ?_
          with_reducible refine (laws_eqDisk.calls kj25 _ _ t399 _ _ t415 true _ ?side1 ?side2 ?side3 ?side4 A82.out).mono ?_
          (case side1 => repeat (first | exact (Kd.R_reads' HO_403000.out).2.2 | (with_reducible refine Kd.C_alloc ?_ _) | (with_reducible refine Kd.C_drewN ?_ _) | (with_reducible refine Kd.C_drew ?_)))
          (case side2 => exact (Kd.R_reads' HO_403000.out).2.1)
          (case side3 => repeat (first | exact (Kd.R_reads' HO417.out).2.2 | (with_reducible refine Kd.C_alloc ?_ _) | (with_reducible refine Kd.C_drewN ?_ _) | (with_reducible refine Kd.C_drew ?_)))
          (case side4 => exact (Kd.R_reads' HO417.out).2.1)
          rintro e w97 ⟨rfl, hb⟩
          refine ⟨_, rfl, ?_⟩
          replace HO_13 := am (Kd.R_below (rx HO_13.out) hb)
          replace HO_14 := am (Kd.R_below (rx HO_14.out) hb)
          replace HO_399000 := am (Kd.R_below (rx HO_399000.out) hb)
          replace HO_403000 := am (Kd.R_below (rx HO_403000.out) hb)
          replace HO_414000 := am (Kd.R_below (rx HO_414000.out) hb)
          replace HO417 := am (Kd.R_below (rx HO417.out) hb)
          replace BK382 := zk hb BK382
          replace BK398 := zk hb BK398
          replace BK402 := zk hb BK402
          replace BK413 := zk hb BK413
          replace HB := zs4 hb HB GE382 GE398 GE402 GE413
          refine hK.out _ _ ⟨ct BK402.out 0, ct BK382.out 0⟩ (fun hHeld => ?_)
          clear hK K
          refine znm 72 ?_
          refine pure_ (i := 4) (N := some 73) (v := ?_) (a' := ?_) #[true, true, true, true, true] rfl rfl (by kernel_rfl) (fun _ _ _ h => h) (Or.inl ⟨by rfl, ?_⟩) ?_ ?_
          rotate_left
          ·intro w'
           go_simp
           with_reducible rfl
          rotate_left
          ·simp only [Act.put, List.setIfInBounds_toArray, List.set_cons_zero, List.set_cons_succ, i64_w, i32_w]
           rfl
          refine done_ (by kernel_rfl) ?_
          go_upto_region 27 with (first | ((with_reducible refine gate_callee (f := 18) rfl ?_); refine goesL_ (some 76) rfl rfl Try.func18 (by kernel_rfl) rfl #[.slice A1 l1.length c1] rfl zr ?_; (with_reducible refine (laws_toActS.calls kj25 _ _ l1 t419 _ ?side1 ?side2 A84.out).mono ?_); (case side1 => repeat (first | exact (Kd.C_below HR1.out HB.out) | (with_reducible refine Kd.C_alloc ?_ _) | (with_reducible refine Kd.C_drewN ?_ _) | (with_reducible refine Kd.C_drew ?_))); (case side2 => exact HC1.out); rintro e w98 ⟨v420, rfl, ho0, hb⟩; refine ⟨_, rfl, ?_⟩; have HO421 := am (Kd.R_lower (Kd.R_new' ho0 (Kd.R_lt (rx HO_13.out))) (below_size (zb4 HB.out GE382.out GE398.out GE402.out GE413.out))); replace HO_13 := am (Kd.R_elder' (rx HO_13.out) (Kd.R_base ho0) hb); replace HO_14 := am (Kd.R_below (rx HO_14.out) hb); replace HO_399000 := am (Kd.R_below (rx HO_399000.out) hb); replace HO_403000 := am (Kd.R_below (rx HO_403000.out) hb); replace HO_414000 := am (Kd.R_below (rx HO_414000.out) hb); replace HO417 := am (Kd.R_below (rx HO417.out) hb); replace BK382 := zk hb BK382; replace BK398 := zk hb BK398; replace BK402 := zk hb BK402; replace BK413 := zk hb BK413; replace HB := zs4 hb HB GE382 GE398 GE402 GE413; clear hb ho0; obtain ⟨Ao99, co99, eo99⟩ := Kd.R_slice HO421.out; subst eo99) | ((with_reducible refine gate_callee (f := 20) rfl ?_); refine goesL_ (some 77) rfl rfl Try.func20 (by kernel_rfl) rfl #[.slice Ao53 t403.length co53, .slice Ao99 t419.length co99] rfl zr ?_; (with_reducible refine (laws_eqActS.calls kj25 _ _ t403 _ _ t419 true _ ?side1 ?side2 ?side3 ?side4 A85.out).mono ?_); (case side1 => repeat (first | exact (Kd.R_reads' HO_13.out).2.2 | (with_reducible refine Kd.C_alloc ?_ _) | (with_reducible refine Kd.C_drewN ?_ _) | (with_reducible refine Kd.C_drew ?_))); (case side2 => exact (Kd.R_reads' HO_13.out).2.1); (case side3 => repeat (first | exact (Kd.R_reads' HO421.out).2.2 | (with_reducible refine Kd.C_alloc ?_ _) | (with_reducible refine Kd.C_drewN ?_ _) | (with_reducible refine Kd.C_drew ?_))); (case side4 => exact (Kd.R_reads' HO421.out).2.1); rintro e w100 ⟨rfl, hb⟩; refine ⟨_, rfl, ?_⟩; replace HO_13 := am (Kd.R_below (rx HO_13.out) hb); replace HO_14 := am (Kd.R_below (rx HO_14.out) hb); replace HO_399000 := am (Kd.R_below (rx HO_399000.out) hb); replace HO_403000 := am (Kd.R_below (rx HO_403000.out) hb); replace HO_414000 := am (Kd.R_below (rx HO_414000.out) hb); replace HO417 := am (Kd.R_below (rx HO417.out) hb); replace HO421 := am (Kd.R_below (rx HO421.out) hb); replace BK382 := zk hb BK382; replace BK398 := zk hb BK398; replace BK402 := zk hb BK402; replace BK413 := zk hb BK413; replace HB := zs4 hb HB GE382 GE398 GE402 GE413; clear hb) | ((with_reducible refine gate_callee (f := 28) rfl ?_); refine goesL_ (some 81) rfl rfl Try.func28 (by kernel_rfl) rfl #[.slice A3 l3.length c3] rfl zr ?_; (with_reducible refine (laws_toIntS.calls kj25 _ _ l3 t423 _ ?side1 ?side2 A87.out).mono ?_); (case side1 => repeat (first | exact (Kd.C_below HR3.out HB.out) | (with_reducible refine Kd.C_alloc ?_ _) | (with_reducible refine Kd.C_drewN ?_ _) | (with_reducible refine Kd.C_drew ?_))); (case side2 => exact HC3.out); rintro e w101 ⟨v424, rfl, ho0, hb⟩; refine ⟨_, rfl, ?_⟩; have HO425 := am (Kd.R_lower (Kd.R_new' ho0 (Kd.R_lt (rx HO_14.out))) (below_size (zb4 HB.out GE382.out GE398.out GE402.out GE413.out))); replace HO_13 := am (Kd.R_below (rx HO_13.out) hb); replace HO_14 := am (Kd.R_elder' (rx HO_14.out) (Kd.R_base ho0) hb); replace HO_399000 := am (Kd.R_below (rx HO_399000.out) hb); replace HO_403000 := am (Kd.R_below (rx HO_403000.out) hb); replace HO_414000 := am (Kd.R_below (rx HO_414000.out) hb); replace HO417 := am (Kd.R_below (rx HO417.out) hb); replace HO421 := am (Kd.R_below (rx HO421.out) hb); replace BK382 := zk hb BK382; replace BK398 := zk hb BK398; replace BK402 := zk hb BK402; replace BK413 := zk hb BK413; replace HB := zs4 hb HB GE382 GE398 GE402 GE413; clear hb ho0; obtain ⟨Ao102, co102, eo102⟩ := Kd.R_slice HO425.out; subst eo102) | ((with_reducible refine gate_callee (f := 29) rfl ?_); refine goesL_ (some 82) rfl rfl Try.func29 (by kernel_rfl) rfl #[.slice Ao54 t406.length co54, .slice Ao102 t423.length co102] rfl zr ?_; (with_reducible refine (laws_eqIntS.calls kj25 _ _ t406 _ _ t423 true _ ?side1 ?side2 ?side3 ?side4 A88.out).mono ?_); (case side1 => repeat (first | exact (Kd.R_reads' HO_14.out).2.2 | (with_reducible refine Kd.C_alloc ?_ _) | (with_reducible refine Kd.C_drewN ?_ _) | (with_reducible refine Kd.C_drew ?_))); (case side2 => exact (Kd.R_reads' HO_14.out).2.1); (case side3 => repeat (first | exact (Kd.R_reads' HO425.out).2.2 | (with_reducible refine Kd.C_alloc ?_ _) | (with_reducible refine Kd.C_drewN ?_ _) | (with_reducible refine Kd.C_drew ?_))); (case side4 => exact (Kd.R_reads' HO425.out).2.1); rintro e w' ⟨rfl, ⟨nd, rfl⟩⟩; refine ⟨_, rfl, ?_⟩; obtain ⟨hnb103, hnc103⟩ := zn2 NB402_382; obtain ⟨hnb104, hnc104⟩ := zn2 NB402_398; obtain ⟨hnb105, hnc105⟩ := zn2 NB402_413; obtain ⟨hcz106_0, hfz106_0⟩ := zc1 BK402.out) | ((with_reducible refine gate_callee (f := 14) rfl ?_); refine goesL_ (some 86) rfl rfl Try.func14 (by kernel_rfl) rfl #[.agg #[.slice Ao46 t399.length co46], .int .i64 1] rfl zr ?_; (with_reducible refine (laws_markDisk.calls kj25 (fun k_ => some k_ = (.slice Ao46 t399.length co46 : Value).ownBlock) (.slice Ao46 t399.length co46) t399 1 t427 t428 w _ ?side1 ?side2 A90.out).mono ?_); (case side1 => repeat (first | (with_reducible first | exact HB.out | apply below_alloc | apply pw_below_drewN | apply below_drew1 | refine below_set ?_ GE382.out | refine below_set ?_ GE398.out | refine below_set ?_ GE402.out | refine below_set ?_ GE413.out) | exact HB.out)); (case side2 => exact Kd.R_tight rfl HO_403000.out); rintro e w107 ⟨rfl, hy0, hb, hkp⟩; refine ⟨_, rfl, ?_⟩; replace HO_13 := am (Kd.R_mono (ok' := fun k_ => some k_ ≠ (.slice Ao99 t419.length co99 : Value).ownBlock) (Kd.R_keptB ((Kd.R_apart' HO_13.out (Kd.R_typed HO_403000.out) (by decide))) hkp (fun k_ hk_ hs_ => (hk_.2) hs_)) (fun k_ hk_ => hk_.1.1.2)); replace HO_14 := am (Kd.R_mono (ok' := fun k_ => some k_ ≠ (.slice Ao102 t423.length co102 : Value).ownBlock) (Kd.R_keptB ((Kd.R_apart' HO_14.out (Kd.R_typed HO_403000.out) (by decide))) hkp (fun k_ hk_ hs_ => (hk_.2) hs_)) (fun k_ hk_ => hk_.1.1.2)); replace HO_399000 := am (Kd.R_mono (ok' := fun k_ => some k_ ≠ (.slice Ao46 t399.length co46 : Value).ownBlock ∧ some k_ ≠ (.slice Ao57 t409.length co57 : Value).ownBlock ∧ some k_ ≠ (.slice Ao96 t415.length co96 : Value).ownBlock) (Kd.R_keptB (HO_399000.out) hkp (fun k_ hk_ hs_ => (hk_.1.1) hs_)) (fun k_ hk_ => ⟨hk_.1.1.1, hk_.1.1.2, hk_.1.2⟩)); replace HO_414000 := am (Kd.R_mono (ok' := fun k_ => some k_ ≠ (.slice Ao40 t394.length co40 : Value).ownBlock ∧ some k_ ≠ (.slice Ao46 t399.length co46 : Value).ownBlock ∧ some k_ ≠ (.slice Ao96 t415.length co96 : Value).ownBlock) (Kd.R_keptB (HO_414000.out) hkp (fun k_ hk_ hs_ => (hk_.1.2) hs_)) (fun k_ hk_ => ⟨hk_.1.1.1, hk_.1.1.2, hk_.1.2⟩)); replace BK382 := am (blk_kept (kx BK382.out) hkp (fun hs_ => (fun e_ => (Kd.R_ne HO_403000.out BK382.out (by decide)) e_) hs_)); replace BK398 := am (blk_kept (kx BK398.out) hkp (fun hs_ => (fun e_ => (Kd.R_ne HO_403000.out BK398.out (by decide)) e_) hs_)); replace BK402 := am (blk_kept (kx BK402.out) hkp (fun hs_ => (fun e_ => (Kd.R_ne HO_403000.out BK402.out (by decide)) e_) hs_)); replace BK413 := am (blk_kept (kx BK413.out) hkp (fun hs_ => (fun e_ => (Kd.R_ne HO_403000.out BK413.out (by decide)) e_) hs_)); replace HO417 := am (Kd.R_mono (ok' := fun k_ => some k_ ≠ (.slice Ao40 t394.length co40 : Value).ownBlock ∧ some k_ ≠ (.slice Ao46 t399.length co46 : Value).ownBlock ∧ some k_ ≠ (.slice Ao57 t409.length co57 : Value).ownBlock) (Kd.R_keptB (HO417.out) hkp (fun k_ hk_ hs_ => (hk_.1.2) hs_)) (fun k_ hk_ => ⟨hk_.1.1.1.2, hk_.1.1.2, hk_.1.2⟩)); replace HO421 := am (Kd.R_mono (ok' := fun k_ => some k_ ≠ (.slice Ao53 t403.length co53 : Value).ownBlock) (Kd.R_keptB ((Kd.R_apart' HO421.out (Kd.R_typed HO_403000.out) (by decide))) hkp (fun k_ hk_ hs_ => (hk_.2) hs_)) (fun k_ hk_ => hk_.1.1.2)); replace HO425 := am (Kd.R_mono (ok' := fun k_ => some k_ ≠ (.slice Ao54 t406.length co54 : Value).ownBlock) (Kd.R_keptB ((Kd.R_apart' HO425.out (Kd.R_typed HO_403000.out) (by decide))) hkp (fun k_ hk_ hs_ => (hk_.2) hs_)) (fun k_ hk_ => hk_.1.1.2)); replace HO_403000 := am (Kd.R_reok rfl hy0 (fun k_ e_ => HO_403000.out.1 k_ e_)); replace HB := am (hb); clear hb hkp hy0) | ((with_reducible refine gate_callee (f := 21) rfl ?_); refine goesL_ (some 89) rfl rfl Try.func21 (by kernel_rfl) rfl #[.slice Ao53 t403.length co53, .int .i64 t427] rfl zr ?_; (with_reducible refine (laws_markActS.calls kj25 (fun k_ => some k_ = (.slice Ao53 t403.length co53 : Value).ownBlock) (.slice Ao53 t403.length co53) t403 t427 t429 t430 w _ ?side1 ?side2 A91.out).mono ?_); (case side1 => repeat (first | (with_reducible first | exact HB.out | apply below_alloc | apply pw_below_drewN | apply below_drew1 | refine below_set ?_ GE382.out | refine below_set ?_ GE398.out | refine below_set ?_ GE402.out | refine below_set ?_ GE413.out) | exact HB.out)); (case side2 => exact Kd.R_tight rfl HO_13.out); rintro e w108 ⟨rfl, hy0, hb, hkp⟩; refine ⟨_, rfl, ?_⟩; replace HO_14 := am (Kd.R_mono (ok' := fun k_ => some k_ ≠ (.slice Ao102 t423.length co102 : Value).ownBlock) (Kd.R_keptB ((Kd.R_apart' HO_14.out (Kd.R_typed HO_13.out) (by decide))) hkp (fun k_ hk_ hs_ => (hk_.2) hs_)) (fun k_ hk_ => hk_.1.1)); replace HO_399000 := am (Kd.R_mono (ok' := fun k_ => some k_ ≠ (.slice Ao46 t399.length co46 : Value).ownBlock ∧ some k_ ≠ (.slice Ao57 t409.length co57 : Value).ownBlock ∧ some k_ ≠ (.slice Ao96 t415.length co96 : Value).ownBlock) (Kd.R_keptB ((Kd.R_apart' HO_399000.out (Kd.R_typed HO_13.out) (by decide))) hkp (fun k_ hk_ hs_ => (hk_.2) hs_)) (fun k_ hk_ => ⟨hk_.1.1.1, hk_.1.1.2.1, hk_.1.1.2.2⟩)); replace HO_403000 := am (Kd.R_mono (ok' := fun k_ => some k_ ≠ (.slice Ao40 t394.length co40 : Value).ownBlock ∧ some k_ ≠ (.slice Ao57 t409.length co57 : Value).ownBlock ∧ some k_ ≠ (.slice Ao96 t415.length co96 : Value).ownBlock) (Kd.R_keptB ((Kd.R_apart' HO_403000.out (Kd.R_typed HO_13.out) (by decide))) hkp (fun k_ hk_ hs_ => (hk_.2) hs_)) (fun k_ hk_ => ⟨hk_.1.1.1.1, hk_.1.1.1.2, hk_.1.1.2⟩)); replace HO_414000 := am (Kd.R_mono (ok' := fun k_ => some k_ ≠ (.slice Ao40 t394.length co40 : Value).ownBlock ∧ some k_ ≠ (.slice Ao46 t399.length co46 : Value).ownBlock ∧ some k_ ≠ (.slice Ao96 t415.length co96 : Value).ownBlock) (Kd.R_keptB ((Kd.R_apart' HO_414000.out (Kd.R_typed HO_13.out) (by decide))) hkp (fun k_ hk_ hs_ => (hk_.2) hs_)) (fun k_ hk_ => ⟨hk_.1.1.1, hk_.1.1.2.1, hk_.1.1.2.2⟩)); replace BK382 := am (blk_kept (kx BK382.out) hkp (fun hs_ => (fun e_ => (Kd.R_ne HO_13.out BK382.out (by decide)) e_) hs_)); replace BK398 := am (blk_kept (kx BK398.out) hkp (fun hs_ => (fun e_ => (Kd.R_ne HO_13.out BK398.out (by decide)) e_) hs_)); replace BK402 := am (blk_kept (kx BK402.out) hkp (fun hs_ => (fun e_ => (Kd.R_ne HO_13.out BK402.out (by decide)) e_) hs_)); replace BK413 := am (blk_kept (kx BK413.out) hkp (fun hs_ => (fun e_ => (Kd.R_ne HO_13.out BK413.out (by decide)) e_) hs_)); replace HO417 := am (Kd.R_mono (ok' := fun k_ => some k_ ≠ (.slice Ao40 t394.length co40 : Value).ownBlock ∧ some k_ ≠ (.slice Ao46 t399.length co46 : Value).ownBlock ∧ some k_ ≠ (.slice Ao57 t409.length co57 : Value).ownBlock) (Kd.R_keptB ((Kd.R_apart' HO417.out (Kd.R_typed HO_13.out) (by decide))) hkp (fun k_ hk_ hs_ => (hk_.2) hs_)) (fun k_ hk_ => ⟨hk_.1.1.1, hk_.1.1.2.1, hk_.1.1.2.2⟩)); replace HO421 := am (Kd.R_mono (ok' := fun k_ => some k_ ≠ (.slice Ao53 t403.length co53 : Value).ownBlock) (Kd.R_keptB (HO421.out) hkp (fun k_ hk_ hs_ => (hk_) hs_)) (fun k_ hk_ => hk_.1)); replace HO425 := am (Kd.R_mono (ok' := fun k_ => some k_ ≠ (.slice Ao54 t406.length co54 : Value).ownBlock) (Kd.R_keptB ((Kd.R_apart' HO425.out (Kd.R_typed HO_13.out) (by decide))) hkp (fun k_ hk_ hs_ => (hk_.2) hs_)) (fun k_ hk_ => hk_.1.1)); replace HO_13 := am (Kd.R_reok rfl hy0 (fun k_ e_ => HO_13.out.1 k_ e_)); replace HB := am (hb); clear hb hkp hy0) | ((with_reducible refine gate_callee (f := 30) rfl ?_); refine goesL_ (some 92) rfl rfl Try.func30 (by kernel_rfl) rfl #[.slice Ao54 t406.length co54, .int .i64 t429] rfl zr ?_; (with_reducible refine (laws_markIntS.calls kj25 (fun k_ => some k_ = (.slice Ao54 t406.length co54 : Value).ownBlock) (.slice Ao54 t406.length co54) t406 t429 t431 t432 w _ ?side1 ?side2 A92.out).mono ?_); (case side1 => repeat (first | (with_reducible first | exact HB.out | apply below_alloc | apply pw_below_drewN | apply below_drew1 | refine below_set ?_ GE382.out | refine below_set ?_ GE398.out | refine below_set ?_ GE402.out | refine below_set ?_ GE413.out) | exact HB.out)); (case side2 => exact Kd.R_tight rfl HO_14.out); rintro e w109 ⟨rfl, hy0, hb, hkp⟩; refine ⟨_, rfl, ?_⟩; replace HO_13 := am (Kd.R_mono (ok' := fun k_ => some k_ ≠ (.slice Ao99 t419.length co99 : Value).ownBlock) (Kd.R_keptB ((Kd.R_apart' HO_13.out (Kd.R_typed HO_14.out) (by decide))) hkp (fun k_ hk_ hs_ => (hk_.2) hs_)) (fun k_ hk_ => hk_.1.1)); replace HO_399000 := am (Kd.R_mono (ok' := fun k_ => some k_ ≠ (.slice Ao46 t399.length co46 : Value).ownBlock ∧ some k_ ≠ (.slice Ao57 t409.length co57 : Value).ownBlock ∧ some k_ ≠ (.slice Ao96 t415.length co96 : Value).ownBlock) (Kd.R_keptB ((Kd.R_apart' HO_399000.out (Kd.R_typed HO_14.out) (by decide))) hkp (fun k_ hk_ hs_ => (hk_.2) hs_)) (fun k_ hk_ => ⟨hk_.1.1.1, hk_.1.1.2.1, hk_.1.1.2.2⟩)); replace HO_403000 := am (Kd.R_mono (ok' := fun k_ => some k_ ≠ (.slice Ao40 t394.length co40 : Value).ownBlock ∧ some k_ ≠ (.slice Ao57 t409.length co57 : Value).ownBlock ∧ some k_ ≠ (.slice Ao96 t415.length co96 : Value).ownBlock) (Kd.R_keptB ((Kd.R_apart' HO_403000.out (Kd.R_typed HO_14.out) (by decide))) hkp (fun k_ hk_ hs_ => (hk_.2) hs_)) (fun k_ hk_ => ⟨hk_.1.1.1, hk_.1.1.2.1, hk_.1.1.2.2⟩)); replace HO_414000 := am (Kd.R_mono (ok' := fun k_ => some k_ ≠ (.slice Ao40 t394.length co40 : Value).ownBlock ∧ some k_ ≠ (.slice Ao46 t399.length co46 : Value).ownBlock ∧ some k_ ≠ (.slice Ao96 t415.length co96 : Value).ownBlock) (Kd.R_keptB ((Kd.R_apart' HO_414000.out (Kd.R_typed HO_14.out) (by decide))) hkp (fun k_ hk_ hs_ => (hk_.2) hs_)) (fun k_ hk_ => ⟨hk_.1.1.1, hk_.1.1.2.1, hk_.1.1.2.2⟩)); replace BK382 := am (blk_kept (kx BK382.out) hkp (fun hs_ => (fun e_ => (Kd.R_ne HO_14.out BK382.out (by decide)) e_) hs_)); replace BK398 := am (blk_kept (kx BK398.out) hkp (fun hs_ => (fun e_ => (Kd.R_ne HO_14.out BK398.out (by decide)) e_) hs_)); replace BK402 := am (blk_kept (kx BK402.out) hkp (fun hs_ => (fun e_ => (Kd.R_ne HO_14.out BK402.out (by decide)) e_) hs_)); replace BK413 := am (blk_kept (kx BK413.out) hkp (fun hs_ => (fun e_ => (Kd.R_ne HO_14.out BK413.out (by decide)) e_) hs_)); replace HO417 := am (Kd.R_mono (ok' := fun k_ => some k_ ≠ (.slice Ao40 t394.length co40 : Value).ownBlock ∧ some k_ ≠ (.slice Ao46 t399.length co46 : Value).ownBlock ∧ some k_ ≠ (.slice Ao57 t409.length co57 : Value).ownBlock) (Kd.R_keptB ((Kd.R_apart' HO417.out (Kd.R_typed HO_14.out) (by decide))) hkp (fun k_ hk_ hs_ => (hk_.2) hs_)) (fun k_ hk_ => ⟨hk_.1.1.1, hk_.1.1.2.1, hk_.1.1.2.2⟩)); replace HO421 := am (Kd.R_mono (ok' := fun k_ => some k_ ≠ (.slice Ao53 t403.length co53 : Value).ownBlock) (Kd.R_keptB ((Kd.R_apart' HO421.out (Kd.R_typed HO_14.out) (by decide))) hkp (fun k_ hk_ hs_ => (hk_.2) hs_)) (fun k_ hk_ => hk_.1.1)); replace HO_14 := am (Kd.R_reok rfl hy0 (fun k_ e_ => HO_14.out.1 k_ e_)); replace HO425 := am (Kd.R_mono (ok' := fun k_ => some k_ ≠ (.slice Ao54 t406.length co54 : Value).ownBlock) (Kd.R_keptB (HO425.out) hkp (fun k_ hk_ hs_ => (hk_) hs_)) (fun k_ hk_ => hk_.1)); replace HB := am (hb); clear hb hkp hy0))
          (try simp only [Act.put, List.setIfInBounds_toArray, List.set_cons_zero, List.set_cons_succ])
          go_cut [105] (fun v105 wc => ∃ (kq : Nat) (x105_92 : Bool), v105 = .bool x105_92 ∧ Aside0 (laws_FnExactCutActs.j1 kq l1 a2 l3 t397 x105_92 l0_0 t394 t409 = some r) ∧ Aside0 (kq ≤ kj25) ∧ Aside0 (Kd.R k66 66 wc w.heap.size (fun k_ => some k_ ≠ ((.slice Ao46 t399.length co46) : Value).ownBlock ∧ some k_ ≠ ((.slice Ao57 t409.length co57) : Value).ownBlock) (.slice Ao40 t394.length co40) t394) ∧ Aside0 (Kd.R k66 66 wc w.heap.size (fun k_ => some k_ ≠ ((.slice Ao40 t394.length co40) : Value).ownBlock ∧ some k_ ≠ ((.slice Ao57 t409.length co57) : Value).ownBlock) (.slice Ao46 t399.length co46) t428) ∧ Aside0 (Kd.R k66 66 wc w.heap.size (fun k_ => some k_ ≠ ((.slice Ao40 t394.length co40) : Value).ownBlock ∧ some k_ ≠ ((.slice Ao46 t399.length co46) : Value).ownBlock) (.slice Ao57 t409.length co57) t409) ∧ Aside0 (wc.heap[gb382]? = some (.cells #[(.slice A0_0 l0_0.length c0_0)] 24 (0, 0))) ∧ Aside0 (wc.heap[gb398]? = some (.cells #[(.slice Ao40 t394.length co40)] 31 (0, 0))) ∧ Aside0 (wc.heap[gb402]? = some (.cells #[(.slice Ao46 t399.length co46)] 31 (0, 0))) ∧ Aside0 (wc.heap[gb413]? = some (.cells #[(.slice Ao57 t409.length co57)] 31 (0, 0))) ∧ Aside0 (Below w.heap.size w wc))
          case first =>
           have H := HC93.out
           clear HC93
           by_cases c110 : t431 < 0
           ·rw [if_pos c110] at H
            have c110b0 : decide (t431 < 0) = true := decide_eq_true c110
            clear c110
            (first | rw [c110b0] | (simp only [i64_w, i32_w]; rw [c110b0]) | skip)
            have H' := Aside0.mk H
            clear H
            go_wp2
            go_meet
            case rel => exact ⟨_, (true), (by first | rfl | (simp; done) | (simp [*]; done)), H', ⟨by have := HJ25.out; first | omega | exact Nat.le_refl _⟩, ⟨rx (Kd.R_mono HO_399000.out (fun _ hk => ⟨hk.1, hk.2.1⟩))⟩, ⟨rx (Kd.R_mono HO_403000.out (fun _ hk => ⟨hk.1, hk.2.1⟩))⟩, ⟨rx (Kd.R_mono HO_414000.out (fun _ hk => ⟨hk.1, hk.2.1⟩))⟩, ⟨kx BK382.out⟩, ⟨kx BK398.out⟩, ⟨kx BK402.out⟩, ⟨kx BK413.out⟩, ⟨zb4 HB.out GE382.out GE398.out GE402.out GE413.out⟩⟩
           ·rw [if_neg c110] at H
            have c110b0 : decide (t431 < 0) = false := decide_eq_false c110
            clear c110
            (first | rw [c110b0] | (simp only [i64_w, i32_w]; rw [c110b0]) | skip)
            replace H := Option.bind_eq_some_iff.mp H
            obtain ⟨t433, A1110, H⟩ := H
            try dsimp only at H
            have A111 := Aside0.mk A1110
            clear A1110
            by_cases c112 : t433 = true
            ·subst c112
             have H1 : (laws_FnExactCutActs.j1 kj25 l1 a2 l3 t397 (t412 != t397) l0_0 t394 t409) = some r := by rw [if_pos rfl] at H; exact H
             clear H
             have H := H1
             clear H1
             have H' := Aside0.mk H
             clear H
             obtain ⟨hnb113, hnc113⟩ := zn2 NB413_382
             obtain ⟨hnb114, hnc114⟩ := zn2 NB413_398
             obtain ⟨hnb115, hnc115⟩ := zn2 NB413_402
             obtain ⟨hcz116_0, hfz116_0⟩ := zc1 BK413.out
             obtain ⟨hnb117, hnc117⟩ := zn2 NB398_382
             obtain ⟨hnb118, hnc118⟩ := zn2 NB398_402
             obtain ⟨hcz119_0, hfz119_0⟩ := zc1 BK398.out
             go_wp2_with (first | (go_at_call 13; (with_reducible refine (laws_eqDisk.calls kj25 _ _ t409 _ _ t394 true _ ?side1 ?side2 ?side3 ?side4 A111.out).mono ?_); (case side1 => repeat (first | exact (Kd.R_reads' HO_414000.out).2.2 | (with_reducible refine Kd.C_alloc ?_ _) | (with_reducible refine Kd.C_drewN ?_ _) | (with_reducible refine Kd.C_drew ?_))); (case side2 => exact (Kd.R_reads' HO_414000.out).2.1); (case side3 => repeat (first | exact (Kd.R_reads' HO_399000.out).2.2 | (with_reducible refine Kd.C_alloc ?_ _) | (with_reducible refine Kd.C_drewN ?_ _) | (with_reducible refine Kd.C_drew ?_))); (case side4 => exact (Kd.R_reads' HO_399000.out).2.1); rintro e w120 ⟨rfl, hb⟩; replace HO_13 := am (Kd.R_below (rx HO_13.out) hb); replace HO_14 := am (Kd.R_below (rx HO_14.out) hb); replace HO_399000 := am (Kd.R_below (rx HO_399000.out) hb); replace HO_403000 := am (Kd.R_below (rx HO_403000.out) hb); replace HO_414000 := am (Kd.R_below (rx HO_414000.out) hb); replace HO417 := am (Kd.R_below (rx HO417.out) hb); replace HO421 := am (Kd.R_below (rx HO421.out) hb); replace HO425 := am (Kd.R_below (rx HO425.out) hb); replace BK382 := zk hb BK382; replace BK398 := zk hb BK398; replace BK402 := zk hb BK402; replace BK413 := zk hb BK413; replace HB := zs4 hb HB GE382 GE398 GE402 GE413; clear hb))
             go_meet
             case rel => exact ⟨_, ((t412 != t397)), (by first | rfl | (simp; done) | (simp [*]; done)), H', ⟨by have := HJ25.out; first | omega | exact Nat.le_refl _⟩, ⟨rx (Kd.R_mono HO_399000.out (fun _ hk => ⟨hk.1, hk.2.1⟩))⟩, ⟨rx (Kd.R_mono HO_403000.out (fun _ hk => ⟨hk.1, hk.2.1⟩))⟩, ⟨rx (Kd.R_mono HO_414000.out (fun _ hk => ⟨hk.1, hk.2.1⟩))⟩, ⟨kx BK382.out⟩, ⟨kx BK398.out⟩, ⟨kx BK402.out⟩, ⟨kx BK413.out⟩, ⟨zb4 HB.out GE382.out GE398.out GE402.out GE413.out⟩⟩
            ·replace c112 := Bool.eq_false_iff.mpr c112
             subst c112
             have H1 : (laws_FnExactCutActs.j1 kj25 l1 a2 l3 t397 true l0_0 t394 t409) = some r := by rw [if_neg (show ¬ (false = true) by decide)] at H; exact H
             clear H
             have H := H1
             clear H1
             have H' := Aside0.mk H
             clear H
             obtain ⟨hnb121, hnc121⟩ := zn2 NB413_382
             obtain ⟨hnb122, hnc122⟩ := zn2 NB413_398
             obtain ⟨hnb123, hnc123⟩ := zn2 NB413_402
             obtain ⟨hcz124_0, hfz124_0⟩ := zc1 BK413.out
             obtain ⟨hnb125, hnc125⟩ := zn2 NB398_382
             obtain ⟨hnb126, hnc126⟩ := zn2 NB398_402
             obtain ⟨hcz127_0, hfz127_0⟩ := zc1 BK398.out
             go_wp2_with (first | (go_at_call 13; (with_reducible refine (laws_eqDisk.calls kj25 _ _ t409 _ _ t394 false _ ?side1 ?side2 ?side3 ?side4 A111.out).mono ?_); (case side1 => repeat (first | exact (Kd.R_reads' HO_414000.out).2.2 | (with_reducible refine Kd.C_alloc ?_ _) | (with_reducible refine Kd.C_drewN ?_ _) | (with_reducible refine Kd.C_drew ?_))); (case side2 => exact (Kd.R_reads' HO_414000.out).2.1); (case side3 => repeat (first | exact (Kd.R_reads' HO_399000.out).2.2 | (with_reducible refine Kd.C_alloc ?_ _) | (with_reducible refine Kd.C_drewN ?_ _) | (with_reducible refine Kd.C_drew ?_))); (case side4 => exact (Kd.R_reads' HO_399000.out).2.1); rintro e w128 ⟨rfl, hb⟩; replace HO_13 := am (Kd.R_below (rx HO_13.out) hb); replace HO_14 := am (Kd.R_below (rx HO_14.out) hb); replace HO_399000 := am (Kd.R_below (rx HO_399000.out) hb); replace HO_403000 := am (Kd.R_below (rx HO_403000.out) hb); replace HO_414000 := am (Kd.R_below (rx HO_414000.out) hb); replace HO417 := am (Kd.R_below (rx HO417.out) hb); replace HO421 := am (Kd.R_below (rx HO421.out) hb); replace HO425 := am (Kd.R_below (rx HO425.out) hb); replace BK382 := zk hb BK382; replace BK398 := zk hb BK398; replace BK402 := zk hb BK402; replace BK413 := zk hb BK413; replace HB := zs4 hb HB GE382 GE398 GE402 GE413; clear hb))
             go_meet
             case rel => exact ⟨_, (true), (by first | rfl | (simp; done) | (simp [*]; done)), H', ⟨by have := HJ25.out; first | omega | exact Nat.le_refl _⟩, ⟨rx (Kd.R_mono HO_399000.out (fun _ hk => ⟨hk.1, hk.2.1⟩))⟩, ⟨rx (Kd.R_mono HO_403000.out (fun _ hk => ⟨hk.1, hk.2.1⟩))⟩, ⟨rx (Kd.R_mono HO_414000.out (fun _ hk => ⟨hk.1, hk.2.1⟩))⟩, ⟨kx BK382.out⟩, ⟨kx BK398.out⟩, ⟨kx BK402.out⟩, ⟨kx BK413.out⟩, ⟨zb4 HB.out GE382.out GE398.out GE402.out GE413.out⟩⟩
          case rest =>
           clear HC93
           obtain ⟨kq, x105_92, rfl, HA, HJ92, HO_399000, HO_403000, HO_414000, BK382, BK398, BK402, BK413, HB⟩ := hcut
           have hl403000_92 := (Kd.R_reads' HO_403000.out).1
           rw [hl403000_92] at HO_403000
           (try simp only [hl403000_92])
           (try simp only [hl403000_92] at BK382)
           (try simp only [hl403000_92] at BK398)
           (try simp only [hl403000_92] at BK402)
           (try simp only [hl403000_92] at BK413)
           (try simp only [hl403000_92] at HO_399000)
           (try simp only [hl403000_92] at HO_414000)
           cases kq with
           | zero => exact absurd HA.out (by simp [laws_FnExactCutActs.j1])
           | succ kj92 =>
            have H := HA.out
            clear HA
            simp only [laws_FnExactCutActs.j1] at H
            by_cases c129 : x105_92 = true
            ·subst c129
             have H1 : (some false) = some r := by rw [if_pos rfl] at H; exact H
             clear H
             have H := H1
             clear H1
             exact absurd ((Option.some.inj H).trans HLT.out) (by decide)
            ·replace c129 := Bool.eq_false_iff.mpr c129
             subst c129
             have H1 : ((laws_markDisk.f kj92 t409 1).bind fun bt434 => ((laws_heldDisk.f kj92 bt434.2 1).bind fun t436 => (if t436 < 0 then (some false) else (if t436 = bt434.1 then ((laws_toDisk.f kj92 l0_0).bind fun t437 => ((laws_toActS.f kj92 l1).bind fun t440 => ((laws_toIntS.f kj92 l3).bind fun t443 => ((impl_CutActs.f kj92 t437 t440 a2 t443).bind fun bt446 => ((laws_eqDisk.f kj92 bt446.1 t394).bind fun t451 => (if t451 = true then (laws_FnExactCutActs.j2 kj92 bt434.1 (bt446.2 != t397) bt434.2) else (laws_FnExactCutActs.j2 kj92 bt434.1 true bt434.2))))))) else (some false))))) = some r := by rw [if_neg (show ¬ (false = true) by decide)] at H; exact H
             clear H
             have H := H1
             clear H1
             replace H := Option.bind_eq_some_iff.mp H
             obtain ⟨⟨t434, t435⟩, A1300, H⟩ := H
             try dsimp only at H
             have A130 := Aside0.mk A1300
             clear A1300
             replace H := Option.bind_eq_some_iff.mp H
             obtain ⟨t436, A1310, H⟩ := H
             try dsimp only at H
             have A131 := Aside0.mk A1310
             clear A1310
             by_cases c132 : t436 < 0
             ·rw [if_pos c132] at H
              have c132b0 : decide (t436 < 0) = true := decide_eq_true c132
              clear c132
              exact absurd ((Option.some.inj H).trans HLT.out) (by decide)
             ·rw [if_neg c132] at H
              have c132b0 : decide (t436 < 0) = false := decide_eq_false c132
              clear c132
              by_cases c133 : t436 = t434
              ·rw [if_pos c133] at H
               have c133b0 : (t436 == t434) = true := beq_iff_eq.mpr c133
               have c133b1 : (t436 != t434) = false := bne_eq_false_iff_eq.mpr c133
               clear c133
               replace H := Option.bind_eq_some_iff.mp H
               obtain ⟨t437, A1340, H⟩ := H
               try dsimp only at H
               have A134 := Aside0.mk A1340
               clear A1340
               replace H := Option.bind_eq_some_iff.mp H
               obtain ⟨t440, A1350, H⟩ := H
               try dsimp only at H
               have A135 := Aside0.mk A1350
               clear A1350
               replace H := Option.bind_eq_some_iff.mp H
               obtain ⟨t443, A1360, H⟩ := H
               try dsimp only at H
               have A136 := Aside0.mk A1360
               clear A1360
               replace H := Option.bind_eq_some_iff.mp H
               obtain ⟨⟨t446, t449⟩, A1370, H⟩ := H
               try dsimp only at H
               have A137 := Aside0.mk A1370
               clear A1370
               have HC138 := Aside0.mk H
               clear H
               obtain ⟨hnb139, hnc139⟩ := zn2 NB413_382
               obtain ⟨hnb140, hnc140⟩ := zn2 NB413_398
               obtain ⟨hnb141, hnc141⟩ := zn2 NB413_402
               obtain ⟨hcz142_0, hfz142_0⟩ := zc1 BK413.out
               go_upto_region 38 with (first | ((with_reducible refine gate_callee (f := 14) rfl ?_); refine goesL_ (some 108) rfl rfl Try.func14 (by kernel_rfl) rfl #[.agg #[.slice Ao57 t409.length co57], .int .i64 1] rfl zr ?_; (with_reducible refine (laws_markDisk.calls kj92 (fun k_ => some k_ = (.slice Ao57 t409.length co57 : Value).ownBlock) (.slice Ao57 t409.length co57) t409 1 t434 t435 w _ ?side1 ?side2 A130.out).mono ?_); (case side1 => repeat (first | (with_reducible first | exact HB.out | apply below_alloc | apply pw_below_drewN | apply below_drew1 | refine below_set ?_ GE382.out | refine below_set ?_ GE398.out | refine below_set ?_ GE402.out | refine below_set ?_ GE413.out) | exact HB.out)); (case side2 => exact Kd.R_tight rfl HO_414000.out); rintro e w143 ⟨rfl, hy0, hb, hkp⟩; refine ⟨_, rfl, ?_⟩; replace HO_399000 := am (Kd.R_mono (ok' := fun k_ => some k_ ≠ (.slice Ao46 t428.length co46 : Value).ownBlock ∧ some k_ ≠ (.slice Ao57 t409.length co57 : Value).ownBlock) (Kd.R_keptB (HO_399000.out) hkp (fun k_ hk_ hs_ => (hk_.2) hs_)) (fun k_ hk_ => ⟨hk_.1.1, hk_.1.2⟩)); replace HO_403000 := am (Kd.R_mono (ok' := fun k_ => some k_ ≠ (.slice Ao40 t394.length co40 : Value).ownBlock ∧ some k_ ≠ (.slice Ao57 t409.length co57 : Value).ownBlock) (Kd.R_keptB (HO_403000.out) hkp (fun k_ hk_ hs_ => (hk_.2) hs_)) (fun k_ hk_ => ⟨hk_.1.1, hk_.1.2⟩)); replace BK382 := am (blk_kept (kx BK382.out) hkp (fun hs_ => (fun e_ => (Kd.R_ne HO_414000.out BK382.out (by decide)) e_) hs_)); replace BK398 := am (blk_kept (kx BK398.out) hkp (fun hs_ => (fun e_ => (Kd.R_ne HO_414000.out BK398.out (by decide)) e_) hs_)); replace BK402 := am (blk_kept (kx BK402.out) hkp (fun hs_ => (fun e_ => (Kd.R_ne HO_414000.out BK402.out (by decide)) e_) hs_)); replace BK413 := am (blk_kept (kx BK413.out) hkp (fun hs_ => (fun e_ => (Kd.R_ne HO_414000.out BK413.out (by decide)) e_) hs_)); replace HO_414000 := am (Kd.R_reok rfl hy0 (fun k_ e_ => HO_414000.out.1 k_ e_)); replace HB := am (hb); clear hb hkp hy0; obtain ⟨hcz144_0, hfz144_0⟩ := zc1 BK413.out) | ((with_reducible refine gate_callee (f := 15) rfl ?_); refine goesL_ (some 111) rfl rfl Try.func15 (by kernel_rfl) rfl #[.agg #[.slice Ao57 t435.length co57], .int .i64 1] rfl (by (try simp only [List.map_toArray, List.map_cons, List.map_nil]); first | done | (rw [show t435.length = t409.length from (Kd.R_reads' HO_414000.out).1.symm] <;> rfl) | rfl | (simp only [List.length_drop, List.length_take]; rfl)) ?_; (with_reducible refine (laws_heldDisk.calls kj92 _ _ t435 1 t436 _ ?side1 ?side2 A131.out).mono ?_); (case side1 => repeat (first | exact (Kd.R_reads' HO_414000.out).2.2 | (with_reducible refine Kd.C_alloc ?_ _) | (with_reducible refine Kd.C_drewN ?_ _) | (with_reducible refine Kd.C_drew ?_))); (case side2 => rw [show t435.length = t409.length from (Kd.R_reads' HO_414000.out).1.symm]; exact (Kd.R_reads' HO_414000.out).2.1); rintro e w145 ⟨rfl, hb⟩; refine ⟨_, rfl, ?_⟩; replace HO_399000 := am (Kd.R_below (rx HO_399000.out) hb); replace HO_403000 := am (Kd.R_below (rx HO_403000.out) hb); replace HO_414000 := am (Kd.R_below (rx HO_414000.out) hb); replace BK382 := zk hb BK382; replace BK398 := zk hb BK398; replace BK402 := zk hb BK402; replace BK413 := zk hb BK413; replace HB := zs4 hb HB GE382 GE398 GE402 GE413; clear hb; obtain ⟨hnb146, hnc146⟩ := zn2 NB382_398; obtain ⟨hnb147, hnc147⟩ := zn2 NB382_402; obtain ⟨hcz148_0, hfz148_0⟩ := zc1 BK382.out) | ((with_reducible refine gate_callee (f := 10) rfl ?_); refine goesL_ (some 119) rfl rfl Try.func10 (by kernel_rfl) rfl #[.agg #[.slice A0_0 l0_0.length c0_0]] rfl zr ?_; (with_reducible refine (laws_toDisk.calls kj92 _ _ l0_0 t437 _ ?side1 ?side2 A134.out).mono ?_); (case side1 => repeat (first | exact (Kd.C_below HR0_0.out HB.out) | (with_reducible refine Kd.C_alloc ?_ _) | (with_reducible refine Kd.C_drewN ?_ _) | (with_reducible refine Kd.C_drew ?_))); (case side2 => exact HC0_0.out); rintro e w149 ⟨v438, rfl, ho0, hb⟩; refine ⟨_, rfl, ?_⟩; have HO439 := am (Kd.R_lower (Kd.R_new' (Kd.R_new' (Kd.R_new' ho0 (Kd.R_lt (rx HO_399000.out))) (Kd.R_lt (rx HO_403000.out))) (Kd.R_lt (rx HO_414000.out))) (below_size (zb4 HB.out GE382.out GE398.out GE402.out GE413.out))); replace HO_399000 := am (Kd.R_elder' (rx HO_399000.out) (Kd.R_base ho0) hb); replace HO_403000 := am (Kd.R_elder' (rx HO_403000.out) (Kd.R_base ho0) hb); replace HO_414000 := am (Kd.R_elder' (rx HO_414000.out) (Kd.R_base ho0) hb); replace BK382 := zk hb BK382; replace BK398 := zk hb BK398; replace BK402 := zk hb BK402; replace BK413 := zk hb BK413; replace HB := zs4 hb HB GE382 GE398 GE402 GE413; clear hb ho0) | ((with_reducible refine gate_callee (f := 18) rfl ?_); refine goesL_ (some 121) rfl rfl Try.func18 (by kernel_rfl) rfl #[.slice A1 l1.length c1] rfl zr ?_; (with_reducible refine (laws_toActS.calls kj92 _ _ l1 t440 _ ?side1 ?side2 A135.out).mono ?_); (case side1 => repeat (first | exact (Kd.C_below HR1.out HB.out) | (with_reducible refine Kd.C_alloc ?_ _) | (with_reducible refine Kd.C_drewN ?_ _) | (with_reducible refine Kd.C_drew ?_))); (case side2 => exact HC1.out); rintro e w150 ⟨v441, rfl, ho0, hb⟩; refine ⟨_, rfl, ?_⟩; have HO442 := am (Kd.R_lower ho0 (below_size (zb4 HB.out GE382.out GE398.out GE402.out GE413.out))); replace HO_399000 := am (Kd.R_below (rx HO_399000.out) hb); replace HO_403000 := am (Kd.R_below (rx HO_403000.out) hb); replace HO_414000 := am (Kd.R_below (rx HO_414000.out) hb); replace HO439 := am (Kd.R_below (rx HO439.out) hb); replace BK382 := zk hb BK382; replace BK398 := zk hb BK398; replace BK402 := zk hb BK402; replace BK413 := zk hb BK413; replace HB := zs4 hb HB GE382 GE398 GE402 GE413; clear hb ho0) | ((with_reducible refine gate_callee (f := 28) rfl ?_); refine goesL_ (some 124) rfl rfl Try.func28 (by kernel_rfl) rfl #[.slice A3 l3.length c3] rfl zr ?_; (with_reducible refine (laws_toIntS.calls kj92 _ _ l3 t443 _ ?side1 ?side2 A136.out).mono ?_); (case side1 => repeat (first | exact (Kd.C_below HR3.out HB.out) | (with_reducible refine Kd.C_alloc ?_ _) | (with_reducible refine Kd.C_drewN ?_ _) | (with_reducible refine Kd.C_drew ?_))); (case side2 => exact HC3.out); rintro e w151 ⟨v444, rfl, ho0, hb⟩; refine ⟨_, rfl, ?_⟩; have HO445 := am (Kd.R_lower ho0 (below_size (zb4 HB.out GE382.out GE398.out GE402.out GE413.out))); replace HO_399000 := am (Kd.R_below (rx HO_399000.out) hb); replace HO_403000 := am (Kd.R_below (rx HO_403000.out) hb); replace HO_414000 := am (Kd.R_below (rx HO_414000.out) hb); replace HO439 := am (Kd.R_below (rx HO439.out) hb); replace HO442 := am (Kd.R_below (rx HO442.out) hb); replace BK382 := zk hb BK382; replace BK398 := zk hb BK398; replace BK402 := zk hb BK402; replace BK413 := zk hb BK413; replace HB := zs4 hb HB GE382 GE398 GE402 GE413; clear hb ho0; obtain ⟨Ao152, co152, eo152⟩ := Kd.R_slice HO439.out; subst eo152; obtain ⟨Ao153, co153, eo153⟩ := Kd.R_slice HO442.out; subst eo153; obtain ⟨Ao154, co154, eo154⟩ := Kd.R_slice HO445.out; subst eo154) | ((with_reducible refine gate_callee (f := 26) rfl ?_); refine goesL_ (some 125) rfl rfl Try.func26 (by kernel_rfl) rfl #[.agg #[.slice Ao152 t437.length co152], .slice Ao153 t440.length co153, .int .i64 a2, .slice Ao154 t443.length co154] rfl zr ?_; (with_reducible refine (impl_CutActs.calls kj92 _ _ t437 _ _ t440 a2 _ _ t443 t446 t449 _ ?side1 ?side2 ?side3 ?side4 ?side5 ?side6 A137.out).mono ?_); (case side1 => repeat (first | exact (Kd.R_reads' HO439.out).2.2 | (with_reducible refine Kd.C_alloc ?_ _) | (with_reducible refine Kd.C_drewN ?_ _) | (with_reducible refine Kd.C_drew ?_))); (case side2 => exact (Kd.R_reads' HO439.out).2.1); (case side3 => repeat (first | exact (Kd.R_reads' HO442.out).2.2 | (with_reducible refine Kd.C_alloc ?_ _) | (with_reducible refine Kd.C_drewN ?_ _) | (with_reducible refine Kd.C_drew ?_))); (case side4 => exact (Kd.R_reads' HO442.out).2.1); (case side5 => repeat (first | exact (Kd.R_reads' HO445.out).2.2 | (with_reducible refine Kd.C_alloc ?_ _) | (with_reducible refine Kd.C_drewN ?_ _) | (with_reducible refine Kd.C_drew ?_))); (case side6 => exact (Kd.R_reads' HO445.out).2.1); rintro e w155 ⟨v447, rfl, ho0, hb⟩; refine ⟨_, rfl, ?_⟩; have HO448 := am (Kd.R_lower (Kd.R_new' (Kd.R_new' (Kd.R_new' (Kd.R_new' ho0 (Kd.R_lt (rx HO_399000.out))) (Kd.R_lt (rx HO_403000.out))) (Kd.R_lt (rx HO_414000.out))) (Kd.R_lt (rx HO439.out))) (below_size (zb4 HB.out GE382.out GE398.out GE402.out GE413.out))); replace HO_399000 := am (Kd.R_elder' (rx HO_399000.out) (Kd.R_base ho0) hb); replace HO_403000 := am (Kd.R_elder' (rx HO_403000.out) (Kd.R_base ho0) hb); replace HO_414000 := am (Kd.R_elder' (rx HO_414000.out) (Kd.R_base ho0) hb); replace HO439 := am (Kd.R_elder' (rx HO439.out) (Kd.R_base ho0) hb); replace HO442 := am (Kd.R_below (rx HO442.out) hb); replace HO445 := am (Kd.R_below (rx HO445.out) hb); replace BK382 := zk hb BK382; replace BK398 := zk hb BK398; replace BK402 := zk hb BK402; replace BK413 := zk hb BK413; replace HB := zs4 hb HB GE382 GE398 GE402 GE413; clear hb ho0) | ((with_reducible refine gate_dst (N := 20) rfl ?_); refine box_event rfl (N := 20) rfl (cs := #[.slice none 0 0]) (t := 31) zrun ?_; intro gb450 hg w156 hbox hb; have BK450 := am (hbox); have GE450 := zge hg (zb4 HB.out GE382.out GE398.out GE402.out GE413.out); obtain ⟨NB382_450, NB450_382⟩ := zne hg BK382; obtain ⟨NB398_450, NB450_398⟩ := zne hg BK398; obtain ⟨NB402_450, NB450_402⟩ := zne hg BK402; obtain ⟨NB413_450, NB450_413⟩ := zne hg BK413; replace HO_399000 := am (Kd.R_below (rx HO_399000.out) hb); replace HO_403000 := am (Kd.R_below (rx HO_403000.out) hb); replace HO_414000 := am (Kd.R_below (rx HO_414000.out) hb); replace HO439 := am (Kd.R_below (rx HO439.out) hb); replace HO442 := am (Kd.R_below (rx HO442.out) hb); replace HO445 := am (Kd.R_below (rx HO445.out) hb); replace HO448 := am (Kd.R_below (rx HO448.out) hb); replace BK382 := zk hb BK382; replace BK398 := zk hb BK398; replace BK402 := zk hb BK402; replace BK413 := zk hb BK413; replace HB := zs4 hb HB GE382 GE398 GE402 GE413; clear hb hbox hg; obtain ⟨Ao157, co157, eo157⟩ := Kd.R_slice HO448.out; subst eo157; obtain ⟨hnb158, hnc158⟩ := zn2 NB450_382; obtain ⟨hnb159, hnc159⟩ := zn2 NB450_398; obtain ⟨hnb160, hnc160⟩ := zn2 NB450_402; obtain ⟨hnb161, hnc161⟩ := zn2 NB450_413; obtain ⟨hcz162_0, hfz162_0⟩ := zc1 BK450.out))
               (try simp only [Act.put, List.setIfInBounds_toArray, List.set_cons_zero, List.set_cons_succ])
               go_cut [136] (fun v136 wc => ∃ (kq : Nat) (x136_137 : Bool), v136 = .bool x136_137 ∧ Aside0 (laws_FnExactCutActs.j2 kq t434 x136_137 t435 = some r) ∧ Aside0 (kq ≤ kj92) ∧ Aside0 (Kd.R k66 66 wc w.heap.size (fun k_ => some k_ ≠ ((.slice Ao46 t428.length co46) : Value).ownBlock ∧ some k_ ≠ ((.slice Ao57 t409.length co57) : Value).ownBlock ∧ some k_ ≠ ((.slice Ao157 t446.length co157) : Value).ownBlock) (.slice Ao40 t394.length co40) t394) ∧ Aside0 (Kd.R k66 66 wc w.heap.size (fun k_ => some k_ ≠ ((.slice Ao40 t394.length co40) : Value).ownBlock ∧ some k_ ≠ ((.slice Ao57 t409.length co57) : Value).ownBlock ∧ some k_ ≠ ((.slice Ao157 t446.length co157) : Value).ownBlock) (.slice Ao46 t428.length co46) t428) ∧ Aside0 (Kd.R k66 66 wc w.heap.size (fun k_ => some k_ ≠ ((.slice Ao40 t394.length co40) : Value).ownBlock ∧ some k_ ≠ ((.slice Ao46 t428.length co46) : Value).ownBlock ∧ some k_ ≠ ((.slice Ao157 t446.length co157) : Value).ownBlock) (.slice Ao57 t409.length co57) t435) ∧ Aside0 (Kd.R k66 66 wc w.heap.size (fun k_ => some k_ ≠ ((.slice Ao40 t394.length co40) : Value).ownBlock ∧ some k_ ≠ ((.slice Ao46 t428.length co46) : Value).ownBlock ∧ some k_ ≠ ((.slice Ao57 t409.length co57) : Value).ownBlock) (.slice Ao157 t446.length co157) t446) ∧ Aside0 (wc.heap[gb382]? = some (.cells #[(.slice A0_0 l0_0.length c0_0)] 24 (0, 0))) ∧ Aside0 (wc.heap[gb398]? = some (.cells #[(.slice Ao40 t394.length co40)] 31 (0, 0))) ∧ Aside0 (wc.heap[gb402]? = some (.cells #[(.slice Ao46 t428.length co46)] 31 (0, 0))) ∧ Aside0 (wc.heap[gb413]? = some (.cells #[(.slice Ao57 t409.length co57)] 31 (0, 0))) ∧ Aside0 (wc.heap[gb450]? = some (.cells #[(.slice Ao157 t446.length co157)] 31 (0, 0))) ∧ Aside0 (Below w.heap.size w wc))
               case first =>
                have H := HC138.out
                clear HC138
                replace H := Option.bind_eq_some_iff.mp H
                obtain ⟨t451, A1630, H⟩ := H
                try dsimp only at H
                have A163 := Aside0.mk A1630
                clear A1630
                by_cases c164 : t451 = true
                ·subst c164
                 have H1 : (laws_FnExactCutActs.j2 kj92 t434 (t449 != t397) t435) = some r := by rw [if_pos rfl] at H; exact H
                 clear H
                 have H := H1
                 clear H1
                 have H' := Aside0.mk H
                 clear H
                 obtain ⟨hnb165, hnc165⟩ := zn2 NB450_382
                 obtain ⟨hnb166, hnc166⟩ := zn2 NB450_398
                 obtain ⟨hnb167, hnc167⟩ := zn2 NB450_402
                 obtain ⟨hnb168, hnc168⟩ := zn2 NB450_413
                 obtain ⟨hcz169_0, hfz169_0⟩ := zc1 BK450.out
                 obtain ⟨hnb170, hnc170⟩ := zn2 NB398_382
                 obtain ⟨hnb171, hnc171⟩ := zn2 NB398_402
                 obtain ⟨hnb172, hnc172⟩ := zn2 NB398_413
                 obtain ⟨hcz173_0, hfz173_0⟩ := zc1 BK398.out
                 go_wp2_with (first | ((with_reducible refine gate_callee (f := 13) rfl ?_); refine goesL_ (some 130) rfl rfl Try.func13 (by kernel_rfl) rfl #[.agg #[.slice Ao157 t446.length co157], .agg #[.slice Ao40 t394.length co40]] rfl zr ?_; (with_reducible refine (laws_eqDisk.calls kj92 _ _ t446 _ _ t394 true _ ?side1 ?side2 ?side3 ?side4 A163.out).mono ?_); (case side1 => refine (Kd.R_reads' (e := 66) (base := w.heap.size) (ok := fun k_ => ((((True ∧ some k_ ≠ (.slice Ao40 t394.length co40 : Value).ownBlock) ∧ some k_ ≠ (.slice Ao46 t428.length co46 : Value).ownBlock) ∧ some k_ ≠ (.slice Ao57 t409.length co57 : Value).ownBlock) ∧ some k_ ≠ (.slice Ao152 t437.length co152 : Value).ownBlock)) (n := t446.length) (c := co157) ?_).2.2; exact (rx ((Kd.R_mono (Kd.R_far (p := ⟨gb450, 0, none⟩) (Kd.R_types HO448.out BK450.out (by decide)) (fun _ hk => hk.2) (.slice Ao157 t446.length co157)) (fun _ h_ => h_.1))))); (case side2 => exact (Kd.R_reads' HO448.out).2.1); (case side3 => refine (Kd.R_reads' (e := 66) (base := w.heap.size) (ok := fun k_ => (((some k_ ≠ (.slice Ao46 t428.length co46 : Value).ownBlock ∧ some k_ ≠ (.slice Ao57 t409.length co57 : Value).ownBlock) ∧ some k_ ≠ (.slice Ao152 t437.length co152 : Value).ownBlock) ∧ some k_ ≠ (.slice Ao157 t446.length co157 : Value).ownBlock)) (n := t394.length) (c := co40) ?_).2.2; exact (rx ((Kd.R_mono (Kd.R_far (p := ⟨gb450, 0, none⟩) (Kd.R_types HO_399000.out BK450.out (by decide)) (fun _ hk => hk.2) (.slice Ao157 t446.length co157)) (fun _ h_ => h_.1))))); (case side4 => exact (Kd.R_reads' HO_399000.out).2.1); rintro e w174 ⟨rfl, hb⟩; refine ⟨_, rfl, ?_⟩; replace HO_399000 := am (Kd.R_below (rx ((Kd.R_mono (Kd.R_far (p := ⟨gb450, 0, none⟩) (Kd.R_types HO_399000.out BK450.out (by decide)) (fun _ hk => hk.2) (.slice Ao157 t446.length co157)) (fun _ h_ => h_.1)))) hb); replace HO_403000 := am (Kd.R_below (rx ((Kd.R_mono (Kd.R_far (p := ⟨gb450, 0, none⟩) (Kd.R_types HO_403000.out BK450.out (by decide)) (fun _ hk => hk.2) (.slice Ao157 t446.length co157)) (fun _ h_ => h_.1)))) hb); replace HO_414000 := am (Kd.R_below (rx ((Kd.R_mono (Kd.R_far (p := ⟨gb450, 0, none⟩) (Kd.R_types HO_414000.out BK450.out (by decide)) (fun _ hk => hk.2) (.slice Ao157 t446.length co157)) (fun _ h_ => h_.1)))) hb); replace HO439 := am (Kd.R_below (rx ((Kd.R_mono (Kd.R_far (p := ⟨gb450, 0, none⟩) (Kd.R_types HO439.out BK450.out (by decide)) (fun _ hk => hk.2) (.slice Ao157 t446.length co157)) (fun _ h_ => h_.1)))) hb); replace HO442 := am (Kd.R_below (rx ((Kd.R_mono (Kd.R_far (p := ⟨gb450, 0, none⟩) (Kd.R_types HO442.out BK450.out (by decide)) (fun _ hk => hk.2) (.slice Ao157 t446.length co157)) (fun _ h_ => h_.1)))) hb); replace HO445 := am (Kd.R_below (rx ((Kd.R_mono (Kd.R_far (p := ⟨gb450, 0, none⟩) (Kd.R_types HO445.out BK450.out (by decide)) (fun _ hk => hk.2) (.slice Ao157 t446.length co157)) (fun _ h_ => h_.1)))) hb); replace HO448 := am (Kd.R_below (rx ((Kd.R_mono (Kd.R_far (p := ⟨gb450, 0, none⟩) (Kd.R_types HO448.out BK450.out (by decide)) (fun _ hk => hk.2) (.slice Ao157 t446.length co157)) (fun _ h_ => h_.1)))) hb); replace BK382 := zh1 hb BK382 NB382_450; replace BK398 := zh1 hb BK398 NB398_450; replace BK402 := zh1 hb BK402 NB402_450; replace BK413 := zh1 hb BK413 NB413_450; replace BK450 := am (blk_below (g := gb450) (o := .cells #[.slice Ao157 t446.length co157] 31 (0, 0)) (by (with_reducible repeat (first | refine blk_drewN ?_ _ | refine blk_drew ?_ | refine blk_alloc ?_ _)); refine blk_put (cs := #[.slice none 0 0]) ?_ 0 _ rfl; (with_reducible repeat (first | refine blk_drewN ?_ _ | refine blk_drew ?_ | refine blk_alloc ?_ _)); exact BK450.out) hb); replace HB := zs5 hb HB GE382 GE398 GE402 GE413 GE450; clear hb))
                 go_meet
                 case rel => exact ⟨_, ((t449 != t397)), (by first | rfl | (simp; done) | (simp [*]; done)), H', ⟨by have := HJ25.out; have := HJ92.out; first | omega | exact Nat.le_refl _⟩, ⟨by (try simp only [hl403000_92]); (with_reducible repeat (first | apply Kd.R_alloc | apply Kd.R_drewN | apply Kd.R_drew)); exact Kd.R_mono HO_399000.out (fun _ hk => ⟨hk.1.1.1, ⟨hk.1.1.2, hk.2⟩⟩)⟩, ⟨by (try simp only [hl403000_92]); (with_reducible repeat (first | apply Kd.R_alloc | apply Kd.R_drewN | apply Kd.R_drew)); exact Kd.R_mono HO_403000.out (fun _ hk => ⟨hk.1.1.1, ⟨hk.1.1.2, hk.2⟩⟩)⟩, ⟨by (try simp only [hl403000_92]); (with_reducible repeat (first | apply Kd.R_alloc | apply Kd.R_drewN | apply Kd.R_drew)); exact Kd.R_mono HO_414000.out (fun _ hk => ⟨hk.1.1.1, ⟨hk.1.1.2, hk.2⟩⟩)⟩, ⟨by (try simp only [hl403000_92]); (with_reducible repeat (first | apply Kd.R_alloc | apply Kd.R_drewN | apply Kd.R_drew)); exact Kd.R_mono HO448.out (fun _ hk => ⟨hk.1.1.1.2, ⟨hk.1.1.2, hk.1.2⟩⟩)⟩, ⟨by (try simp only [hl403000_92]); (with_reducible repeat (first | refine blk_drewN ?_ _ | refine blk_drew ?_ | refine blk_alloc ?_ _)); exact BK382.out⟩, ⟨by (try simp only [hl403000_92]); (with_reducible repeat (first | refine blk_drewN ?_ _ | refine blk_drew ?_ | refine blk_alloc ?_ _)); exact BK398.out⟩, ⟨by (try simp only [hl403000_92]); (with_reducible repeat (first | refine blk_drewN ?_ _ | refine blk_drew ?_ | refine blk_alloc ?_ _)); exact BK402.out⟩, ⟨by (try simp only [hl403000_92]); (with_reducible repeat (first | refine blk_drewN ?_ _ | refine blk_drew ?_ | refine blk_alloc ?_ _)); exact BK413.out⟩, ⟨by (try simp only [hl403000_92]); (with_reducible repeat (first | refine blk_drewN ?_ _ | refine blk_drew ?_ | refine blk_alloc ?_ _)); exact BK450.out⟩, ⟨zb5 HB.out GE382.out GE398.out GE402.out GE413.out GE450.out⟩⟩
                ·replace c164 := Bool.eq_false_iff.mpr c164
                 subst c164
                 have H1 : (laws_FnExactCutActs.j2 kj92 t434 true t435) = some r := by rw [if_neg (show ¬ (false = true) by decide)] at H; exact H
                 clear H
                 have H := H1
                 clear H1
                 have H' := Aside0.mk H
                 clear H
                 obtain ⟨hnb175, hnc175⟩ := zn2 NB450_382
                 obtain ⟨hnb176, hnc176⟩ := zn2 NB450_398
                 obtain ⟨hnb177, hnc177⟩ := zn2 NB450_402
                 obtain ⟨hnb178, hnc178⟩ := zn2 NB450_413
                 obtain ⟨hcz179_0, hfz179_0⟩ := zc1 BK450.out
                 obtain ⟨hnb180, hnc180⟩ := zn2 NB398_382
                 obtain ⟨hnb181, hnc181⟩ := zn2 NB398_402
                 obtain ⟨hnb182, hnc182⟩ := zn2 NB398_413
                 obtain ⟨hcz183_0, hfz183_0⟩ := zc1 BK398.out
                 go_wp2_with (first | ((with_reducible refine gate_callee (f := 13) rfl ?_); refine goesL_ (some 130) rfl rfl Try.func13 (by kernel_rfl) rfl #[.agg #[.slice Ao157 t446.length co157], .agg #[.slice Ao40 t394.length co40]] rfl zr ?_; (with_reducible refine (laws_eqDisk.calls kj92 _ _ t446 _ _ t394 false _ ?side1 ?side2 ?side3 ?side4 A163.out).mono ?_); (case side1 => refine (Kd.R_reads' (e := 66) (base := w.heap.size) (ok := fun k_ => ((((True ∧ some k_ ≠ (.slice Ao40 t394.length co40 : Value).ownBlock) ∧ some k_ ≠ (.slice Ao46 t428.length co46 : Value).ownBlock) ∧ some k_ ≠ (.slice Ao57 t409.length co57 : Value).ownBlock) ∧ some k_ ≠ (.slice Ao152 t437.length co152 : Value).ownBlock)) (n := t446.length) (c := co157) ?_).2.2; exact (rx ((Kd.R_mono (Kd.R_far (p := ⟨gb450, 0, none⟩) (Kd.R_types HO448.out BK450.out (by decide)) (fun _ hk => hk.2) (.slice Ao157 t446.length co157)) (fun _ h_ => h_.1))))); (case side2 => exact (Kd.R_reads' HO448.out).2.1); (case side3 => refine (Kd.R_reads' (e := 66) (base := w.heap.size) (ok := fun k_ => (((some k_ ≠ (.slice Ao46 t428.length co46 : Value).ownBlock ∧ some k_ ≠ (.slice Ao57 t409.length co57 : Value).ownBlock) ∧ some k_ ≠ (.slice Ao152 t437.length co152 : Value).ownBlock) ∧ some k_ ≠ (.slice Ao157 t446.length co157 : Value).ownBlock)) (n := t394.length) (c := co40) ?_).2.2; exact (rx ((Kd.R_mono (Kd.R_far (p := ⟨gb450, 0, none⟩) (Kd.R_types HO_399000.out BK450.out (by decide)) (fun _ hk => hk.2) (.slice Ao157 t446.length co157)) (fun _ h_ => h_.1))))); (case side4 => exact (Kd.R_reads' HO_399000.out).2.1); rintro e w184 ⟨rfl, hb⟩; refine ⟨_, rfl, ?_⟩; replace HO_399000 := am (Kd.R_below (rx ((Kd.R_mono (Kd.R_far (p := ⟨gb450, 0, none⟩) (Kd.R_types HO_399000.out BK450.out (by decide)) (fun _ hk => hk.2) (.slice Ao157 t446.length co157)) (fun _ h_ => h_.1)))) hb); replace HO_403000 := am (Kd.R_below (rx ((Kd.R_mono (Kd.R_far (p := ⟨gb450, 0, none⟩) (Kd.R_types HO_403000.out BK450.out (by decide)) (fun _ hk => hk.2) (.slice Ao157 t446.length co157)) (fun _ h_ => h_.1)))) hb); replace HO_414000 := am (Kd.R_below (rx ((Kd.R_mono (Kd.R_far (p := ⟨gb450, 0, none⟩) (Kd.R_types HO_414000.out BK450.out (by decide)) (fun _ hk => hk.2) (.slice Ao157 t446.length co157)) (fun _ h_ => h_.1)))) hb); replace HO439 := am (Kd.R_below (rx ((Kd.R_mono (Kd.R_far (p := ⟨gb450, 0, none⟩) (Kd.R_types HO439.out BK450.out (by decide)) (fun _ hk => hk.2) (.slice Ao157 t446.length co157)) (fun _ h_ => h_.1)))) hb); replace HO442 := am (Kd.R_below (rx ((Kd.R_mono (Kd.R_far (p := ⟨gb450, 0, none⟩) (Kd.R_types HO442.out BK450.out (by decide)) (fun _ hk => hk.2) (.slice Ao157 t446.length co157)) (fun _ h_ => h_.1)))) hb); replace HO445 := am (Kd.R_below (rx ((Kd.R_mono (Kd.R_far (p := ⟨gb450, 0, none⟩) (Kd.R_types HO445.out BK450.out (by decide)) (fun _ hk => hk.2) (.slice Ao157 t446.length co157)) (fun _ h_ => h_.1)))) hb); replace HO448 := am (Kd.R_below (rx ((Kd.R_mono (Kd.R_far (p := ⟨gb450, 0, none⟩) (Kd.R_types HO448.out BK450.out (by decide)) (fun _ hk => hk.2) (.slice Ao157 t446.length co157)) (fun _ h_ => h_.1)))) hb); replace BK382 := zh1 hb BK382 NB382_450; replace BK398 := zh1 hb BK398 NB398_450; replace BK402 := zh1 hb BK402 NB402_450; replace BK413 := zh1 hb BK413 NB413_450; replace BK450 := am (blk_below (g := gb450) (o := .cells #[.slice Ao157 t446.length co157] 31 (0, 0)) (by (with_reducible repeat (first | refine blk_drewN ?_ _ | refine blk_drew ?_ | refine blk_alloc ?_ _)); refine blk_put (cs := #[.slice none 0 0]) ?_ 0 _ rfl; (with_reducible repeat (first | refine blk_drewN ?_ _ | refine blk_drew ?_ | refine blk_alloc ?_ _)); exact BK450.out) hb); replace HB := zs5 hb HB GE382 GE398 GE402 GE413 GE450; clear hb))
                 go_meet
                 case rel => exact ⟨_, (true), (by first | rfl | (simp; done) | (simp [*]; done)), H', ⟨by have := HJ25.out; have := HJ92.out; first | omega | exact Nat.le_refl _⟩, ⟨by (try simp only [hl403000_92]); (with_reducible repeat (first | apply Kd.R_alloc | apply Kd.R_drewN | apply Kd.R_drew)); exact Kd.R_mono HO_399000.out (fun _ hk => ⟨hk.1.1.1, ⟨hk.1.1.2, hk.2⟩⟩)⟩, ⟨by (try simp only [hl403000_92]); (with_reducible repeat (first | apply Kd.R_alloc | apply Kd.R_drewN | apply Kd.R_drew)); exact Kd.R_mono HO_403000.out (fun _ hk => ⟨hk.1.1.1, ⟨hk.1.1.2, hk.2⟩⟩)⟩, ⟨by (try simp only [hl403000_92]); (with_reducible repeat (first | apply Kd.R_alloc | apply Kd.R_drewN | apply Kd.R_drew)); exact Kd.R_mono HO_414000.out (fun _ hk => ⟨hk.1.1.1, ⟨hk.1.1.2, hk.2⟩⟩)⟩, ⟨by (try simp only [hl403000_92]); (with_reducible repeat (first | apply Kd.R_alloc | apply Kd.R_drewN | apply Kd.R_drew)); exact Kd.R_mono HO448.out (fun _ hk => ⟨hk.1.1.1.2, ⟨hk.1.1.2, hk.1.2⟩⟩)⟩, ⟨by (try simp only [hl403000_92]); (with_reducible repeat (first | refine blk_drewN ?_ _ | refine blk_drew ?_ | refine blk_alloc ?_ _)); exact BK382.out⟩, ⟨by (try simp only [hl403000_92]); (with_reducible repeat (first | refine blk_drewN ?_ _ | refine blk_drew ?_ | refine blk_alloc ?_ _)); exact BK398.out⟩, ⟨by (try simp only [hl403000_92]); (with_reducible repeat (first | refine blk_drewN ?_ _ | refine blk_drew ?_ | refine blk_alloc ?_ _)); exact BK402.out⟩, ⟨by (try simp only [hl403000_92]); (with_reducible repeat (first | refine blk_drewN ?_ _ | refine blk_drew ?_ | refine blk_alloc ?_ _)); exact BK413.out⟩, ⟨by (try simp only [hl403000_92]); (with_reducible repeat (first | refine blk_drewN ?_ _ | refine blk_drew ?_ | refine blk_alloc ?_ _)); exact BK450.out⟩, ⟨zb5 HB.out GE382.out GE398.out GE402.out GE413.out GE450.out⟩⟩
               case rest =>
                clear HC138
                obtain ⟨kq, x136_137, rfl, HA, HJ137, HO_399000, HO_403000, HO_414000, HO_451000, BK382, BK398, BK402, BK413, BK450, HB⟩ := hcut
                have hl414000_137 := (Kd.R_reads' HO_414000.out).1
                rw [hl414000_137] at HO_414000
                (try simp only [hl414000_137])
                (try simp only [hl414000_137] at BK382)
                (try simp only [hl414000_137] at BK398)
                (try simp only [hl414000_137] at BK402)
                (try simp only [hl414000_137] at BK413)
                (try simp only [hl414000_137] at BK450)
                (try simp only [hl414000_137] at HO_399000)
                (try simp only [hl414000_137] at HO_403000)
                (try simp only [hl414000_137] at HO_451000)
                cases kq with
                | zero => exact absurd HA.out (by simp [laws_FnExactCutActs.j2])
                | succ kj137 =>
                 have H := HA.out
                 clear HA
                 simp only [laws_FnExactCutActs.j2] at H
                 by_cases c185 : x136_137 = true
                 ·subst c185
                  have H1 : (some false) = some r := by rw [if_pos rfl] at H; exact H
                  clear H
                  have H := H1
                  clear H1
                  exact absurd ((Option.some.inj H).trans HLT.out) (by decide)
                 ·replace c185 := Bool.eq_false_iff.mpr c185
                  subst c185
                  have H1 : ((laws_heldDisk.f kj137 t435 1).bind fun t452 => (if t452 < 0 then (some false) else (if t452 = t434 then (some true) else (some false)))) = some r := by rw [if_neg (show ¬ (false = true) by decide)] at H; exact H
                  clear H
                  have H := H1
                  clear H1
                  replace H := Option.bind_eq_some_iff.mp H
                  obtain ⟨t452, A1860, H⟩ := H
                  try dsimp only at H
                  have A186 := Aside0.mk A1860
                  clear A1860
                  by_cases c187 : t452 < 0
                  ·rw [if_pos c187] at H
                   have c187b0 : decide (t452 < 0) = true := decide_eq_true c187
                   clear c187
                   exact absurd ((Option.some.inj H).trans HLT.out) (by decide)
                  ·rw [if_neg c187] at H
                   have c187b0 : decide (t452 < 0) = false := decide_eq_false c187
                   clear c187
                   by_cases c188 : t452 = t434
                   ·rw [if_pos c188] at H
                    have c188b0 : (t452 == t434) = true := beq_iff_eq.mpr c188
                    have c188b1 : (t452 != t434) = false := bne_eq_false_iff_eq.mpr c188
                    clear c188
                    obtain rfl := Option.some.inj H
                    obtain ⟨hnb189, hnc189⟩ := zn2 NB413_382
                    obtain ⟨hnb190, hnc190⟩ := zn2 NB413_398
                    obtain ⟨hnb191, hnc191⟩ := zn2 NB413_402
                    obtain ⟨hnb192, hnc192⟩ := zn2 NB413_450
                    obtain ⟨hcz193_0, hfz193_0⟩ := zc1 BK413.out
                    go_wp2_with (first | ((with_reducible refine gate_callee (f := 15) rfl ?_); refine goesL_ (some 139) rfl rfl Try.func15 (by kernel_rfl) rfl #[.agg #[.slice Ao57 t435.length co57], .int .i64 1] rfl zr ?_; (with_reducible refine (laws_heldDisk.calls kj137 _ _ t435 1 t452 _ ?side1 ?side2 A186.out).mono ?_); (case side1 => repeat (first | exact (Kd.R_reads' HO_414000.out).2.2 | (with_reducible refine Kd.C_alloc ?_ _) | (with_reducible refine Kd.C_drewN ?_ _) | (with_reducible refine Kd.C_drew ?_))); (case side2 => exact (Kd.R_reads' HO_414000.out).2.1); rintro e w194 ⟨rfl, hb⟩; refine ⟨_, rfl, ?_⟩; replace HO_399000 := am (Kd.R_below (rx HO_399000.out) hb); replace HO_403000 := am (Kd.R_below (rx HO_403000.out) hb); replace HO_414000 := am (Kd.R_below (rx HO_414000.out) hb); replace HO_451000 := am (Kd.R_below (rx HO_451000.out) hb); replace BK382 := zk hb BK382; replace BK398 := zk hb BK398; replace BK402 := zk hb BK402; replace BK413 := zk hb BK413; replace BK450 := zk hb BK450; replace HB := zs5 hb HB GE382 GE398 GE402 GE413 GE450; clear hb))
                    go_ret
                    exact ⟨by first | rfl | (simp [errW_none, errW_some] <;> rfl) | (simp [*, errW_none, errW_some] <;> rfl), zb5 HB.out GE382.out GE398.out GE402.out GE413.out GE450.out⟩
                   ·rw [if_neg c188] at H
                    have c188b0 : (t452 == t434) = false := beq_eq_false_iff_ne.mpr c188
                    have c188b1 : (t452 != t434) = true := bne_iff_ne.mpr c188
                    exact absurd ((Option.some.inj H).trans HLT.out) (by decide)
              ·rw [if_neg c133] at H
               have c133b0 : (t436 == t434) = false := beq_eq_false_iff_ne.mpr c133
               have c133b1 : (t436 != t434) = true := bne_iff_ne.mpr c133
               exact absurd ((Option.some.inj H).trans HLT.out) (by decide)
         ·replace c89 := Bool.eq_false_iff.mpr c89
          subst c89
          have H1 : (some false) = some r := by rw [if_neg (show ¬ (false = true) by decide)] at H; exact H
          clear H
          have H := H1
          clear H1
          exact absurd ((Option.some.inj H).trans HLT.out) (by decide)
        ·replace c86 := Bool.eq_false_iff.mpr c86
         subst c86
         have H1 : (some false) = some r := by rw [if_neg (show ¬ (false = true) by decide)] at H; exact H
         clear H
         have H := H1
         clear H1
         exact absurd ((Option.some.inj H).trans HLT.out) (by decide)
       ·replace c83 := Bool.eq_false_iff.mpr c83
        subst c83
        have H1 : (some false) = some r := by rw [if_neg (show ¬ (false = true) by decide)] at H; exact H
        clear H
        have H := H1
        clear H1
        exact absurd ((Option.some.inj H).trans HLT.out) (by decide)

end Go.Proofs.Ytklbkkoojkmjbaa.QFnExactCutActs
