/- Written by the kit's print.py, called by our own print2.sh with one import more; not by print.sh. -/
import Derived.Test.YtogifkjkbfdocaaDoorQFnExactNewestSnapx0
import Derived.Test.YtogifkjkbfdocaaDoorQFnExactNewestSnapx1
import Derived.Test.YtogifkjkbfdocaaDoorQFnExactNewestSnapx7
import Derived.Test.YtogifkjkbfdocaaDoorQFnExactNewestSnapx12
import Derived.Test.YtogifkjkbfdocaaDoorQFnExactNewestSnapx13
import Derived.Test.YtogifkjkbfdocaaDoorQFnExactNewestSnapx14
namespace Go.Proofs.YtogifkjkbfdocaaDoor.QFnExactNewestSnap
open Go.RowKit Go.Proofs.YtogifkjkbfdocaaDoorW.PrintWords Go.Proofs.YtogifkjkbfdocaaDoorW.PrintLast Go.Proofs.YtogifkjkbfdocaaDoorW.PrintMore
attribute [local go_sem] max2_int min2_int max_two min_two max_three min_three max_four min_four   -- for this text's walks alone
open Go.Proofs.YtogifkjkbfdocaaDoor.Laid
open Go.Proofs.YtogifkjkbfdocaaDoor.Short
set_option linter.unusedVariables false
set_option linter.unusedSimpArgs false

/-! ### laws_FnExactNewestSnap: function 6 -/
mutual
def laws_FnExactNewestSnap.j0 : Nat → Bool → Bool → Bool → List (S93) → Int → Int → List Int → ByteArray → List (S78) → Int → Int → List Int → ByteArray → Option (Bool)
 | 0, _, _, _, _, _, _, _, _, _, _, _, _, _ => none
 | k + 1, x5, x8, x40, x342000, x354000, x354001, x354002, x354003, x358000, x366000, x366001, x366002, x366003 => if x40 = true then (some false) else ((laws_toDisk.f k x342000).bind fun t367 => ((laws_eqDisk.f k x358000 t367).bind fun t370 => (if t370 = true then ((laws_markDisk.f k x358000 1).bind fun bt371 => (if bt371.1 < 0 then (laws_FnExactNewestSnap.j1 k x5 true x342000 x354000 x354001 x354002 x354003 x366000 x366001 x366002 x366003) else ((laws_eqSnap.f k x366000 x366001 x366002 x366003 x354000 x354001 x354002 x354003).bind fun t373 => (if t373 = true then (laws_FnExactNewestSnap.j1 k x5 (x8 != x5) x342000 x354000 x354001 x354002 x354003 x366000 x366001 x366002 x366003) else (laws_FnExactNewestSnap.j1 k x5 true x342000 x354000 x354001 x354002 x354003 x366000 x366001 x366002 x366003))))) else (some false))))
def laws_FnExactNewestSnap.j1 : Nat → Bool → Bool → List (S93) → Int → Int → List Int → ByteArray → Int → Int → List Int → ByteArray → Option (Bool)
 | 0, _, _, _, _, _, _, _, _, _, _, _ => none
 | k + 1, x5, x61, x342000, x354000, x354001, x354002, x354003, x366000, x366001, x366002, x366003 => if x61 = true then (some false) else ((laws_markSnap.f k x366000 x366001 x366002 x366003 1).bind fun bt374 => ((laws_heldSnap.f k x366000 x366001 bt374.2 x366003 1).bind fun t376 => (if t376 < 0 then (some false) else (if t376 = bt374.1 then ((laws_toDisk.f k x342000).bind fun t377 => ((impl_NewestSnap.f k t377).bind fun bt380 => ((laws_eqSnap.f k bt380.1 bt380.2.1 bt380.2.2.1 bt380.2.2.2.1 x354000 x354001 x354002 x354003).bind fun t388 => (if t388 = true then (laws_FnExactNewestSnap.j2 k bt374.1 (bt380.2.2.2.2 != x5) x366000 x366001 bt374.2 x366003) else (laws_FnExactNewestSnap.j2 k bt374.1 true x366000 x366001 bt374.2 x366003))))) else (some false)))))
def laws_FnExactNewestSnap.j2 : Nat → Int → Bool → Int → Int → List Int → ByteArray → Option (Bool)
 | 0, _, _, _, _, _, _ => none
 | k + 1, x10, x87, x366000, x366001, x366002, x366003 => if x87 = true then (some false) else ((laws_heldSnap.f k x366000 x366001 x366002 x366003 1).bind fun t389 => (if t389 < 0 then (some false) else (if t389 = x10 then (some true) else (some false))))
end
def laws_FnExactNewestSnap.f (k : Nat) (l0_0 : List (S93)) : Option (Bool) := (laws_szDisk.f k l0_0 1048576).bind fun t342 => (if t342 < 0 then (some true) else ((laws_toDisk.f k l0_0).bind fun t343 => ((spec_NewestSnap.f k t343).bind fun bt346 => ((laws_toDisk.f k l0_0).bind fun t354 => ((impl_NewestSnap.f k t354).bind fun bt358 => ((laws_eqSnap.f k bt358.1 bt358.2.1 bt358.2.2.1 bt358.2.2.2.1 bt346.1 bt346.2.1 bt346.2.2.1 bt346.2.2.2.1).bind fun t366 => (if t366 = true then (laws_FnExactNewestSnap.j0 k bt346.2.2.2.2 bt358.2.2.2.2 (bt358.2.2.2.2 != bt346.2.2.2.2) l0_0 bt346.1 bt346.2.1 bt346.2.2.1 bt346.2.2.2.1 t354 bt358.1 bt358.2.1 bt358.2.2.1 bt358.2.2.2.1) else (laws_FnExactNewestSnap.j0 k bt346.2.2.2.2 bt358.2.2.2.2 true l0_0 bt346.1 bt346.2.1 bt346.2.2.1 bt346.2.2.2.1 t354 bt358.1 bt358.2.1 bt358.2.2.1 bt358.2.2.2.1))))))))
theorem laws_FnExactNewestSnap.mono_l : ∀ k, (∀ y0 y1 y2 y3 y4 y5 y6 y7 y8 y9 y10 y11 y12, LeO (laws_FnExactNewestSnap.j0 k y0 y1 y2 y3 y4 y5 y6 y7 y8 y9 y10 y11 y12) (laws_FnExactNewestSnap.j0 (k + 1) y0 y1 y2 y3 y4 y5 y6 y7 y8 y9 y10 y11 y12)) ∧ (∀ y0 y1 y2 y3 y4 y5 y6 y7 y8 y9 y10, LeO (laws_FnExactNewestSnap.j1 k y0 y1 y2 y3 y4 y5 y6 y7 y8 y9 y10) (laws_FnExactNewestSnap.j1 (k + 1) y0 y1 y2 y3 y4 y5 y6 y7 y8 y9 y10)) ∧ (∀ y0 y1 y2 y3 y4 y5, LeO (laws_FnExactNewestSnap.j2 k y0 y1 y2 y3 y4 y5) (laws_FnExactNewestSnap.j2 (k + 1) y0 y1 y2 y3 y4 y5))
 | 0 => ⟨fun _ _ _ _ _ _ _ _ _ _ _ _ _ r h => by simp [laws_FnExactNewestSnap.j0] at h, fun _ _ _ _ _ _ _ _ _ _ _ r h => by simp [laws_FnExactNewestSnap.j1] at h, fun _ _ _ _ _ _ r h => by simp [laws_FnExactNewestSnap.j2] at h⟩
 | k + 1 => by
  obtain ⟨ih0, ih1, ih2⟩ := laws_FnExactNewestSnap.mono_l k
  refine ⟨?_, ?_, ?_⟩
  ·intro y0 y1 y2 y3 y4 y5 y6 y7 y8 y9 y10 y11 y12
   unfold laws_FnExactNewestSnap.j0
   repeat' first
   | (with_reducible exact ih0 _ _ _ _ _ _ _ _ _ _ _ _ _)
   | (with_reducible exact ih1 _ _ _ _ _ _ _ _ _ _ _)
   | (with_reducible exact ih2 _ _ _ _ _ _)
   | (with_reducible exact impl_NewestSnap.mono _ _)
   | (with_reducible exact laws_eqDisk.mono _ _ _)
   | (with_reducible exact laws_eqSnap.mono _ _ _ _ _ _ _ _ _)
   | (with_reducible exact laws_heldSnap.mono _ _ _ _ _ _)
   | (with_reducible exact laws_markDisk.mono _ _ _)
   | (with_reducible exact laws_markSnap.mono _ _ _ _ _ _)
   | (with_reducible exact laws_szDisk.mono _ _ _)
   | (with_reducible exact laws_toDisk.mono _ _)
   | (with_reducible exact spec_NewestSnap.mono _ _)
   | (with_reducible exact LeO.refl _)
   | (with_reducible exact LeO.none _)
   | (with_reducible refine LeO.ite ?_ ?_)
   | (with_reducible refine LeO.bind ?_ (fun _ => ?_))
   | exact ih0 _ _ _ _ _ _ _ _ _ _ _ _ _
   | exact ih1 _ _ _ _ _ _ _ _ _ _ _
   | exact ih2 _ _ _ _ _ _
   | exact impl_NewestSnap.mono _ _
   | exact laws_eqDisk.mono _ _ _
   | exact laws_eqSnap.mono _ _ _ _ _ _ _ _ _
   | exact laws_heldSnap.mono _ _ _ _ _ _
   | exact laws_markDisk.mono _ _ _
   | exact laws_markSnap.mono _ _ _ _ _ _
   | exact laws_szDisk.mono _ _ _
   | exact laws_toDisk.mono _ _
   | exact spec_NewestSnap.mono _ _
   | exact LeO.none _
   | refine LeO.ite ?_ ?_
   | refine LeO.bind ?_ (fun _ => ?_)
  ·intro y0 y1 y2 y3 y4 y5 y6 y7 y8 y9 y10
   unfold laws_FnExactNewestSnap.j1
   repeat' first
   | (with_reducible exact ih0 _ _ _ _ _ _ _ _ _ _ _ _ _)
   | (with_reducible exact ih1 _ _ _ _ _ _ _ _ _ _ _)
   | (with_reducible exact ih2 _ _ _ _ _ _)
   | (with_reducible exact impl_NewestSnap.mono _ _)
   | (with_reducible exact laws_eqDisk.mono _ _ _)
   | (with_reducible exact laws_eqSnap.mono _ _ _ _ _ _ _ _ _)
   | (with_reducible exact laws_heldSnap.mono _ _ _ _ _ _)
   | (with_reducible exact laws_markDisk.mono _ _ _)
   | (with_reducible exact laws_markSnap.mono _ _ _ _ _ _)
   | (with_reducible exact laws_szDisk.mono _ _ _)
   | (with_reducible exact laws_toDisk.mono _ _)
   | (with_reducible exact spec_NewestSnap.mono _ _)
   | (with_reducible exact LeO.refl _)
   | (with_reducible exact LeO.none _)
   | (with_reducible refine LeO.ite ?_ ?_)
   | (with_reducible refine LeO.bind ?_ (fun _ => ?_))
   | exact ih0 _ _ _ _ _ _ _ _ _ _ _ _ _
   | exact ih1 _ _ _ _ _ _ _ _ _ _ _
   | exact ih2 _ _ _ _ _ _
   | exact impl_NewestSnap.mono _ _
   | exact laws_eqDisk.mono _ _ _
   | exact laws_eqSnap.mono _ _ _ _ _ _ _ _ _
   | exact laws_heldSnap.mono _ _ _ _ _ _
   | exact laws_markDisk.mono _ _ _
   | exact laws_markSnap.mono _ _ _ _ _ _
   | exact laws_szDisk.mono _ _ _
   | exact laws_toDisk.mono _ _
   | exact spec_NewestSnap.mono _ _
   | exact LeO.none _
   | refine LeO.ite ?_ ?_
   | refine LeO.bind ?_ (fun _ => ?_)
  ·intro y0 y1 y2 y3 y4 y5
   unfold laws_FnExactNewestSnap.j2
   repeat' first
   | (with_reducible exact ih0 _ _ _ _ _ _ _ _ _ _ _ _ _)
   | (with_reducible exact ih1 _ _ _ _ _ _ _ _ _ _ _)
   | (with_reducible exact ih2 _ _ _ _ _ _)
   | (with_reducible exact impl_NewestSnap.mono _ _)
   | (with_reducible exact laws_eqDisk.mono _ _ _)
   | (with_reducible exact laws_eqSnap.mono _ _ _ _ _ _ _ _ _)
   | (with_reducible exact laws_heldSnap.mono _ _ _ _ _ _)
   | (with_reducible exact laws_markDisk.mono _ _ _)
   | (with_reducible exact laws_markSnap.mono _ _ _ _ _ _)
   | (with_reducible exact laws_szDisk.mono _ _ _)
   | (with_reducible exact laws_toDisk.mono _ _)
   | (with_reducible exact spec_NewestSnap.mono _ _)
   | (with_reducible exact LeO.refl _)
   | (with_reducible exact LeO.none _)
   | (with_reducible refine LeO.ite ?_ ?_)
   | (with_reducible refine LeO.bind ?_ (fun _ => ?_))
   | exact ih0 _ _ _ _ _ _ _ _ _ _ _ _ _
   | exact ih1 _ _ _ _ _ _ _ _ _ _ _
   | exact ih2 _ _ _ _ _ _
   | exact impl_NewestSnap.mono _ _
   | exact laws_eqDisk.mono _ _ _
   | exact laws_eqSnap.mono _ _ _ _ _ _ _ _ _
   | exact laws_heldSnap.mono _ _ _ _ _ _
   | exact laws_markDisk.mono _ _ _
   | exact laws_markSnap.mono _ _ _ _ _ _
   | exact laws_szDisk.mono _ _ _
   | exact laws_toDisk.mono _ _
   | exact spec_NewestSnap.mono _ _
   | exact LeO.none _
   | refine LeO.ite ?_ ?_
   | refine LeO.bind ?_ (fun _ => ?_)
theorem laws_FnExactNewestSnap.mono : ∀ a0 k, LeO (laws_FnExactNewestSnap.f k a0) (laws_FnExactNewestSnap.f (k + 1) a0) := by
 intro a0 k
 obtain ⟨ih0, ih1, ih2⟩ := laws_FnExactNewestSnap.mono_l k
 unfold laws_FnExactNewestSnap.f
 repeat' first
   | (with_reducible exact ih0 _ _ _ _ _ _ _ _ _ _ _ _ _)
   | (with_reducible exact ih1 _ _ _ _ _ _ _ _ _ _ _)
   | (with_reducible exact ih2 _ _ _ _ _ _)
   | (with_reducible exact impl_NewestSnap.mono _ _)
   | (with_reducible exact laws_eqDisk.mono _ _ _)
   | (with_reducible exact laws_eqSnap.mono _ _ _ _ _ _ _ _ _)
   | (with_reducible exact laws_heldSnap.mono _ _ _ _ _ _)
   | (with_reducible exact laws_markDisk.mono _ _ _)
   | (with_reducible exact laws_markSnap.mono _ _ _ _ _ _)
   | (with_reducible exact laws_szDisk.mono _ _ _)
   | (with_reducible exact laws_toDisk.mono _ _)
   | (with_reducible exact spec_NewestSnap.mono _ _)
   | (with_reducible exact LeO.refl _)
   | (with_reducible exact LeO.none _)
   | (with_reducible refine LeO.ite ?_ ?_)
   | (with_reducible refine LeO.bind ?_ (fun _ => ?_))
   | exact ih0 _ _ _ _ _ _ _ _ _ _ _ _ _
   | exact ih1 _ _ _ _ _ _ _ _ _ _ _
   | exact ih2 _ _ _ _ _ _
   | exact impl_NewestSnap.mono _ _
   | exact laws_eqDisk.mono _ _ _
   | exact laws_eqSnap.mono _ _ _ _ _ _ _ _ _
   | exact laws_heldSnap.mono _ _ _ _ _ _
   | exact laws_markDisk.mono _ _ _
   | exact laws_markSnap.mono _ _ _ _ _ _
   | exact laws_szDisk.mono _ _ _
   | exact laws_toDisk.mono _ _
   | exact spec_NewestSnap.mono _ _
   | exact LeO.none _
   | refine LeO.ite ?_ ?_
   | refine LeO.bind ?_ (fun _ => ?_)
set_option maxHeartbeats 8000000 in
set_option maxRecDepth 100000 in
theorem laws_FnExactNewestSnap.calls (k : Nat) (A0_0 : Option Addr) (c0_0 : Nat) (l0_0 : List (S93)) (r : Bool) (w : World) (hr0_0 : Kd.C k93 w A0_0 l0_0.length l0_0) (hc0_0 : l0_0.length ≤ c0_0) (h : laws_FnExactNewestSnap.f k l0_0 = some r) (hrt : r = true := by rfl) (hLW : LaidW w) :
  Calls Tryd.prog 6 #[.agg #[.slice A0_0 l0_0.length c0_0]] w fun e w' => e = .returned (.bool r) ∧ Below w.heap.size w w' := by
 have HLW := Aside0.mk hLW
 clear hLW
 have hu44 := Tryd.underlying44
 have hu48 := Tryd.underlying48
 have hu53 := Tryd.underlying53
 have HR0_0 := Aside0.mk hr0_0
 have HC0_0 := Aside0.mk hc0_0
 clear hr0_0 hc0_0
 have HB := Aside0.mk (Below.refl w.heap.size w)
 have HLT := Aside0.mk hrt
 clear hrt
 have H : ((laws_szDisk.f k l0_0 1048576).bind fun t342 => (if t342 < 0 then (some true) else ((laws_toDisk.f k l0_0).bind fun t343 => ((spec_NewestSnap.f k t343).bind fun bt346 => ((laws_toDisk.f k l0_0).bind fun t354 => ((impl_NewestSnap.f k t354).bind fun bt358 => ((laws_eqSnap.f k bt358.1 bt358.2.1 bt358.2.2.1 bt358.2.2.2.1 bt346.1 bt346.2.1 bt346.2.2.1 bt346.2.2.2.1).bind fun t366 => (if t366 = true then (laws_FnExactNewestSnap.j0 k bt346.2.2.2.2 bt358.2.2.2.2 (bt358.2.2.2.2 != bt346.2.2.2.2) l0_0 bt346.1 bt346.2.1 bt346.2.2.1 bt346.2.2.2.1 t354 bt358.1 bt358.2.1 bt358.2.2.1 bt358.2.2.2.1) else (laws_FnExactNewestSnap.j0 k bt346.2.2.2.2 bt358.2.2.2.2 true l0_0 bt346.1 bt346.2.1 bt346.2.2.1 bt346.2.2.2.1 t354 bt358.1 bt358.2.1 bt358.2.2.1 bt358.2.2.2.1))))))))) = some r := h
 clear h
 replace H := Option.bind_eq_some_iff.mp H
 obtain ⟨t342, A20, H⟩ := H
 try dsimp only at H
 have A2 := Aside0.mk A20
 clear A20
 by_cases c3 : t342 < 0
 ·rw [if_pos c3] at H
  have c3b0 : decide (t342 < 0) = true := decide_eq_true c3
  clear c3
  obtain rfl := Option.some.inj H
  go_enter Tryd.func6, Tryd.ntmps6
  go_wp2_with (first | ((with_reducible refine gate_dst (N := 1) rfl ?_); refine box_event ?hg (N := 1) ?hd (cs := #[.slice A0_0 l0_0.length c0_0]) (t := 44) ?hr ?_; (case hd => rfl); (case hg => rfl); (case hr => first | (go_simp; done) | (go_simp; rfl)); intro gb341 hg w4 hbox hb; have BK341 := am (hbox); have GW341 := zge hg (zb0 HB.out); have GE341 := zge hg (zb0 HB.out); replace HB := am (below_step (zb0 HB.out) hb); clear hb hbox hg; obtain ⟨hcz5_0, hfz5_0⟩ := zc1 BK341.out) | ((with_reducible refine gate_callee (f := 24) rfl ?_); refine goesL_ (some 16) rfl rfl Tryd.func24 (by kernel_rfl) rfl #[.agg #[.slice A0_0 l0_0.length c0_0], .int .i64 1048576] rfl zr ?_; (with_reducible refine (laws_szDisk.calls k _ _ l0_0 1048576 t342 _ ?side1 ?side2 A2.out).mono ?_); (case side1 => repeat (first | exact (Kd.C_below HR0_0.out HB.out) | (with_reducible refine Kd.C_alloc ?_ _) | (with_reducible refine Kd.C_drewN ?_ _) | (with_reducible refine Kd.C_drew ?_))); (case side2 => exact HC0_0.out); rintro e w6 ⟨rfl, hb⟩; refine ⟨_, rfl, ?_⟩; replace BK341 := am (bb hb (kx BK341.out)); replace HB := am (below_step (zb1 HB.out GE341.out) hb); (try clear hb); (try clear hb2); (try clear hk); (try clear hi)))
  go_ret
  exact ⟨by first | rfl | (simp [errW_none, errW_some] <;> rfl) | (simp [*, errW_none, errW_some] <;> rfl), zb1 HB.out GE341.out⟩
 ·rw [if_neg c3] at H
  have c3b0 : decide (t342 < 0) = false := decide_eq_false c3
  clear c3
  replace H := Option.bind_eq_some_iff.mp H
  obtain ⟨t343, A70, H⟩ := H
  try dsimp only at H
  have A7 := Aside0.mk A70
  clear A70
  replace H := Option.bind_eq_some_iff.mp H
  obtain ⟨⟨t346, t347, t348, t351, t352⟩, A80, H⟩ := H
  try dsimp only at H
  have A8 := Aside0.mk A80
  clear A80
  replace H := Option.bind_eq_some_iff.mp H
  obtain ⟨t354, A90, H⟩ := H
  try dsimp only at H
  have A9 := Aside0.mk A90
  clear A90
  replace H := Option.bind_eq_some_iff.mp H
  obtain ⟨⟨t358, t359, t360, t363, t364⟩, A100, H⟩ := H
  try dsimp only at H
  have A10 := Aside0.mk A100
  clear A100
  have HC11 := Aside0.mk H
  clear H
  go_enter Tryd.func6, Tryd.ntmps6
  go_upto_region 8 with (first | ((with_reducible refine gate_dst (N := 1) rfl ?_); refine box_event ?hg (N := 1) ?hd (cs := #[.slice A0_0 l0_0.length c0_0]) (t := 44) ?hr ?_; (case hd => rfl); (case hg => rfl); (case hr => first | (go_simp; done) | (go_simp; rfl)); intro gb341 hg w12 hbox hb; have BK341 := am (hbox); have GW341 := zge hg (zb0 HB.out); have GE341 := zge hg (zb0 HB.out); replace HB := am (below_step (zb0 HB.out) hb); clear hb hbox hg; obtain ⟨hcz13_0, hfz13_0⟩ := zc1 BK341.out) | ((with_reducible refine gate_callee (f := 24) rfl ?_); refine goesL_ (some 16) rfl rfl Tryd.func24 (by kernel_rfl) rfl #[.agg #[.slice A0_0 l0_0.length c0_0], .int .i64 1048576] rfl zr ?_; (with_reducible refine (laws_szDisk.calls k _ _ l0_0 1048576 t342 _ ?side1 ?side2 A2.out).mono ?_); (case side1 => repeat (first | exact (Kd.C_below HR0_0.out HB.out) | (with_reducible refine Kd.C_alloc ?_ _) | (with_reducible refine Kd.C_drewN ?_ _) | (with_reducible refine Kd.C_drew ?_))); (case side2 => exact HC0_0.out); rintro e w14 ⟨rfl, hb⟩; refine ⟨_, rfl, ?_⟩; replace BK341 := am (bb hb (kx BK341.out)); replace HB := am (below_step (zb1 HB.out GE341.out) hb); (try clear hb); (try clear hb2); (try clear hk); (try clear hi); obtain ⟨hcz15_0, hfz15_0⟩ := zc1 BK341.out) | ((with_reducible refine gate_callee (f := 26) rfl ?_); refine goesL_ (some 21) rfl rfl Tryd.func26 (by kernel_rfl) rfl #[.agg #[.slice A0_0 l0_0.length c0_0]] rfl zr ?_; (with_reducible refine (laws_toDisk.calls k _ _ l0_0 t343 _ ?side1 ?side2 A7.out).mono ?_); (case side1 => repeat (first | exact (Kd.C_below HR0_0.out HB.out) | (with_reducible refine Kd.C_alloc ?_ _) | (with_reducible refine Kd.C_drewN ?_ _) | (with_reducible refine Kd.C_drew ?_))); (case side2 => exact HC0_0.out); rintro e w16 ⟨v344, rfl, ho0, hb⟩; refine ⟨_, rfl, ?_⟩; have HO345 := am (Kd.R_lower ho0 (below_size (zb1 HB.out GE341.out))); replace BK341 := am (bb hb (kx BK341.out)); replace HB := am (below_step (zb1 HB.out GE341.out) hb); (try clear hb); (try clear hb2); (try clear hk); (try clear hi); (try clear ho0); obtain ⟨Ao17, co17, eo17⟩ := Kd.R_slice HO345.out; subst eo17) | ((with_reducible refine gate_callee (f := 25) rfl ?_); refine goesL_ (some 22) rfl rfl Tryd.func25 (by kernel_rfl) rfl #[.agg #[.slice Ao17 t343.length co17]] rfl zr ?_; (with_reducible refine (spec_NewestSnap.calls k _ _ t343 t346 t347 t348 t351 t352 _ ?side1 ?side2 A8.out).mono ?_); (case side1 => repeat (first | exact (Kd.R_reads' HO345.out).2.2 | (with_reducible refine Kd.C_alloc ?_ _) | (with_reducible refine Kd.C_drewN ?_ _) | (with_reducible refine Kd.C_drew ?_))); (case side2 => exact (Kd.R_reads' HO345.out).2.1); rintro e w18 ⟨v349, rfl, ho0, hb⟩; refine ⟨_, rfl, ?_⟩; have HO350 := am (Kd.R_lower ho0 (below_size (zb1 HB.out GE341.out))); replace HO345 := am (Kd.R_below (rx HO345.out) hb); replace BK341 := am (bb hb (kx BK341.out)); replace HB := am (below_step (zb1 HB.out GE341.out) hb); (try clear hb); (try clear hb2); (try clear hk); (try clear hi); (try clear ho0)) | ((with_reducible refine gate_dst (N := 4) rfl ?_); refine box_event ?hg (N := 4) ?hd (cs := #[.int .i64 0, .int .i64 0, .slice none 0 0, .string (⟨#[]⟩ : ByteArray)]) (t := 48) ?hr ?_; (case hd => rfl); (case hg => rfl); (case hr => first | (go_simp; done) | (go_simp; rfl)); intro gb353 hg w19 hbox hb; have BK353 := am (hbox); have GW353 := zge hg (zb1 HB.out GE341.out); have GE353 := zge hg (zb1 HB.out GE341.out); have NB341_353 := znl hg (kx BK341.out); have NB353_341 := zng hg (kx BK341.out); replace HO345 := am (Kd.R_below (rx HO345.out) hb); replace HO350 := am (Kd.R_below (rx HO350.out) hb); replace BK341 := am (bb hb (kx BK341.out)); replace HB := am (below_step (zb1 HB.out GE341.out) hb); clear hb hbox hg; have hnb20 := NB353_341.out; have hnc20 := NB341_353.out; obtain ⟨hcz21_0, hcz21_1, hcz21_2, hcz21_3, hfz21_0, hfz21_1, hfz21_2, hfz21_3⟩ := zc4 BK353.out; obtain ⟨Ao22, co22, eo22⟩ := Kd.R_slice HO350.out; subst eo22; obtain ⟨hcz23_0, hfz23_0⟩ := zc1 BK341.out) | ((with_reducible refine gate_callee (f := 26) rfl ?_); refine goesL_ (some 26) rfl rfl Tryd.func26 (by kernel_rfl) rfl #[.agg #[.slice A0_0 l0_0.length c0_0]] rfl zr ?_; (with_reducible refine (laws_toDisk.calls k _ _ l0_0 t354 _ ?side1 ?side2 A9.out).mono ?_); (case side1 => exact Kd.C_below HR0_0.out (zb2 HB.out GE341.out GE353.out)); (case side2 => exact HC0_0.out); rintro e w24 ⟨v355, rfl, ho0, hb⟩; refine ⟨_, rfl, ?_⟩; have HO356 := am (Kd.R_lower (Kd.R_new' ho0 (Kd.R_lt (rx ((Kd.R_mono (Kd.R_far (p := ⟨gb353, 3, none⟩) (Kd.R_far (p := ⟨gb353, 2, none⟩) (Kd.R_far (p := ⟨gb353, 1, none⟩) (Kd.R_far (p := ⟨gb353, 0, none⟩) (Kd.R_types HO345.out BK353.out (by decide)) (fun _ hk => hk.2) (.int .i64 t346)) (fun _ hk => hk.2) (.int .i64 t347)) (fun _ hk => hk.2) (.slice Ao22 t348.length co22)) (fun _ hk => hk.2) (.string t351)) (fun _ h_ => h_.1)))))) (below_size (zb2 HB.out GE341.out GE353.out))); replace HO345 := am (Kd.R_elder' (rx ((Kd.R_mono (Kd.R_far (p := ⟨gb353, 3, none⟩) (Kd.R_far (p := ⟨gb353, 2, none⟩) (Kd.R_far (p := ⟨gb353, 1, none⟩) (Kd.R_far (p := ⟨gb353, 0, none⟩) (Kd.R_types HO345.out BK353.out (by decide)) (fun _ hk => hk.2) (.int .i64 t346)) (fun _ hk => hk.2) (.int .i64 t347)) (fun _ hk => hk.2) (.slice Ao22 t348.length co22)) (fun _ hk => hk.2) (.string t351)) (fun _ h_ => h_.1)))) (Kd.R_base ho0) hb); replace HO350 := am (Kd.R_below (rx ((Kd.R_mono (Kd.R_far (p := ⟨gb353, 3, none⟩) (Kd.R_far (p := ⟨gb353, 2, none⟩) (Kd.R_far (p := ⟨gb353, 1, none⟩) (Kd.R_far (p := ⟨gb353, 0, none⟩) (Kd.R_types HO350.out BK353.out (by decide)) (fun _ hk => hk.2) (.int .i64 t346)) (fun _ hk => hk.2) (.int .i64 t347)) (fun _ hk => hk.2) (.slice Ao22 t348.length co22)) (fun _ hk => hk.2) (.string t351)) (fun _ h_ => h_.1)))) hb); replace BK341 := am (bb hb (zf1 BK341.out NB341_353.out)); replace BK353 := am (blk_below (g := gb353) (o := .cells #[.int .i64 t346, .int .i64 t347, .slice Ao22 t348.length co22, .string t351] 48 (0, 0)) (by (with_reducible repeat (first | refine blk_drewN ?_ _ | refine blk_drew ?_ | refine blk_alloc ?_ _)); refine blk_put (cs := #[.int .i64 t346, .int .i64 t347, .slice Ao22 t348.length co22, .string (⟨#[]⟩ : ByteArray)]) ?_ 3 _ rfl; (with_reducible repeat (first | refine blk_drewN ?_ _ | refine blk_drew ?_ | refine blk_alloc ?_ _)); refine blk_put (cs := #[.int .i64 t346, .int .i64 t347, .slice none 0 0, .string (⟨#[]⟩ : ByteArray)]) ?_ 2 _ rfl; (with_reducible repeat (first | refine blk_drewN ?_ _ | refine blk_drew ?_ | refine blk_alloc ?_ _)); refine blk_put (cs := #[.int .i64 t346, .int .i64 0, .slice none 0 0, .string (⟨#[]⟩ : ByteArray)]) ?_ 1 _ rfl; (with_reducible repeat (first | refine blk_drewN ?_ _ | refine blk_drew ?_ | refine blk_alloc ?_ _)); refine blk_put (cs := #[.int .i64 0, .int .i64 0, .slice none 0 0, .string (⟨#[]⟩ : ByteArray)]) ?_ 0 _ rfl; (with_reducible repeat (first | refine blk_drewN ?_ _ | refine blk_drew ?_ | refine blk_alloc ?_ _)); exact BK353.out) hb); replace HB := am (below_step (zb2 HB.out GE341.out GE353.out) hb); (try clear hb); (try clear hb2); (try clear hk); (try clear hi); (try clear ho0)) | ((with_reducible refine gate_dst (N := 6) rfl ?_); refine box_event ?hg (N := 6) ?hd (cs := #[.slice none 0 0]) (t := 53) ?hr ?_; (case hd => rfl); (case hg => rfl); (case hr => first | (go_simp; done) | (go_simp; rfl)); intro gb357 hg w25 hbox hb; have BK357 := am (hbox); have GW357 := zge hg (zb2 HB.out GE341.out GE353.out); have GE357 := zge hg (zb2 HB.out GE341.out GE353.out); have NB341_357 := znl hg (kx BK341.out); have NB357_341 := zng hg (kx BK341.out); have NB353_357 := znl hg (kx BK353.out); have NB357_353 := zng hg (kx BK353.out); replace HO345 := am (Kd.R_below (rx HO345.out) hb); replace HO350 := am (Kd.R_below (rx HO350.out) hb); replace HO356 := am (Kd.R_below (rx HO356.out) hb); replace BK341 := am (bb hb (kx BK341.out)); replace BK353 := am (bb hb (kx BK353.out)); replace HB := am (below_step (zb2 HB.out GE341.out GE353.out) hb); clear hb hbox hg; obtain ⟨Ao26, co26, eo26⟩ := Kd.R_slice HO356.out; subst eo26; have hnb27 := NB357_341.out; have hnc27 := NB341_357.out; have hnb28 := NB357_353.out; have hnc28 := NB353_357.out; obtain ⟨hcz29_0, hfz29_0⟩ := zc1 BK357.out) | ((with_reducible refine gate_callee (f := 27) rfl ?_); refine goesL_ (some 29) rfl rfl Tryd.func27 (by kernel_rfl) rfl #[.agg #[.slice Ao26 t354.length co26]] rfl zr ?_; (with_reducible refine (impl_NewestSnap.calls k _ _ t354 t358 t359 t360 t363 t364 _ ?side1 ?side2 A10.out ?laid).mono ?_); (case laid => exact LaidW.later HLW.out (zb3 HB.out GE341.out GE353.out GE357.out)); (case side1 => refine (Kd.R_reads' (e := 78) (base := w.heap.size) (ok := fun k_ => (True ∧ some k_ ≠ (.slice Ao17 t343.length co17 : Value).ownBlock)) (n := t354.length) (c := co26) ?_).2.2; exact (rx ((Kd.R_mono (Kd.R_far (p := ⟨gb357, 0, none⟩) (Kd.R_types HO356.out BK357.out (by decide)) (fun _ hk => hk.2) (.slice Ao26 t354.length co26)) (fun _ h_ => h_.1))))); (case side2 => exact (Kd.R_reads' HO356.out).2.1); rintro e w30 ⟨v361, rfl, ho0, hb⟩; refine ⟨_, rfl, ?_⟩; have HO362 := am (Kd.R_lower (Kd.R_new' ho0 (Kd.R_lt (rx ((Kd.R_mono (Kd.R_far (p := ⟨gb357, 0, none⟩) (Kd.R_types HO350.out BK357.out (by decide)) (fun _ hk => hk.2) (.slice Ao26 t354.length co26)) (fun _ h_ => h_.1)))))) (below_size (zb3 HB.out GE341.out GE353.out GE357.out))); replace HO345 := am (Kd.R_below (rx ((Kd.R_mono (Kd.R_far (p := ⟨gb357, 0, none⟩) (Kd.R_types HO345.out BK357.out (by decide)) (fun _ hk => hk.2) (.slice Ao26 t354.length co26)) (fun _ h_ => h_.1)))) hb); replace HO350 := am (Kd.R_elder' (rx ((Kd.R_mono (Kd.R_far (p := ⟨gb357, 0, none⟩) (Kd.R_types HO350.out BK357.out (by decide)) (fun _ hk => hk.2) (.slice Ao26 t354.length co26)) (fun _ h_ => h_.1)))) (Kd.R_base ho0) hb); replace HO356 := am (Kd.R_below (rx ((Kd.R_mono (Kd.R_far (p := ⟨gb357, 0, none⟩) (Kd.R_types HO356.out BK357.out (by decide)) (fun _ hk => hk.2) (.slice Ao26 t354.length co26)) (fun _ h_ => h_.1)))) hb); replace BK341 := am (bb hb (zf1 BK341.out NB341_357.out)); replace BK353 := am (bb hb (zf1 BK353.out NB353_357.out)); replace BK357 := am (blk_below (g := gb357) (o := .cells #[.slice Ao26 t354.length co26] 53 (0, 0)) (by (with_reducible repeat (first | refine blk_drewN ?_ _ | refine blk_drew ?_ | refine blk_alloc ?_ _)); refine blk_put (cs := #[.slice none 0 0]) ?_ 0 _ rfl; (with_reducible repeat (first | refine blk_drewN ?_ _ | refine blk_drew ?_ | refine blk_alloc ?_ _)); exact BK357.out) hb); replace HB := am (below_step (zb3 HB.out GE341.out GE353.out GE357.out) hb); (try clear hb); (try clear hb2); (try clear hk); (try clear hi); (try clear ho0)) | ((with_reducible refine gate_dst (N := 7) rfl ?_); refine box_event ?hg (N := 7) ?hd (cs := #[.int .i64 0, .int .i64 0, .slice none 0 0, .string (⟨#[]⟩ : ByteArray)]) (t := 48) ?hr ?_; (case hd => rfl); (case hg => rfl); (case hr => first | (go_simp; done) | (go_simp; rfl)); intro gb365 hg w31 hbox hb; have BK365 := am (hbox); have GW365 := zge hg (zb3 HB.out GE341.out GE353.out GE357.out); have GE365 := zge hg (zb3 HB.out GE341.out GE353.out GE357.out); have NB341_365 := znl hg (kx BK341.out); have NB365_341 := zng hg (kx BK341.out); have NB353_365 := znl hg (kx BK353.out); have NB365_353 := zng hg (kx BK353.out); have NB357_365 := znl hg (kx BK357.out); have NB365_357 := zng hg (kx BK357.out); replace HO345 := am (Kd.R_below (rx HO345.out) hb); replace HO350 := am (Kd.R_below (rx HO350.out) hb); replace HO356 := am (Kd.R_below (rx HO356.out) hb); replace HO362 := am (Kd.R_below (rx HO362.out) hb); replace BK341 := am (bb hb (kx BK341.out)); replace BK353 := am (bb hb (kx BK353.out)); replace BK357 := am (bb hb (kx BK357.out)); replace HB := am (below_step (zb3 HB.out GE341.out GE353.out GE357.out) hb); clear hb hbox hg; have hnb32 := NB365_341.out; have hnc32 := NB341_365.out; have hnb33 := NB365_353.out; have hnc33 := NB353_365.out; have hnb34 := NB365_357.out; have hnc34 := NB357_365.out; obtain ⟨hcz35_0, hcz35_1, hcz35_2, hcz35_3, hfz35_0, hfz35_1, hfz35_2, hfz35_3⟩ := zc4 BK365.out; obtain ⟨Ao36, co36, eo36⟩ := Kd.R_slice HO362.out; subst eo36))
  (try simp only [Act.put, List.setIfInBounds_toArray, List.set_cons_zero, List.set_cons_succ])
  go_cut [40] (fun v40 wc => ∃ (kq : Nat) (x40_10 : Bool), v40 = .bool x40_10 ∧ Aside0 (laws_FnExactNewestSnap.j0 kq t352 t364 x40_10 l0_0 t346 t347 t348 t351 t354 t358 t359 t360 t363 = some r) ∧ Aside0 (kq ≤ k) ∧ Aside0 (Kd.R (Kd.int .i64) 3 wc w.heap.size (fun k_ => some k_ ≠ ((.slice Ao36 t360.length co36) : Value).ownBlock) (.slice Ao22 t348.length co22) t348) ∧ Aside0 (Kd.R k78 78 wc w.heap.size (fun _ => True) (.slice Ao26 t354.length co26) t354) ∧ Aside0 (Kd.R (Kd.int .i64) 3 wc w.heap.size (fun k_ => some k_ ≠ ((.slice Ao22 t348.length co22) : Value).ownBlock) (.slice Ao36 t360.length co36) t360) ∧ Aside0 (wc.heap[gb341]? = some (.cells #[(.slice A0_0 l0_0.length c0_0)] 44 (0, 0))) ∧ Aside0 (wc.heap[gb353]? = some (.cells #[.int .i64 t346, .int .i64 t347, (.slice Ao22 t348.length co22), .string t351] 48 (0, 0))) ∧ Aside0 (wc.heap[gb357]? = some (.cells #[(.slice Ao26 t354.length co26)] 53 (0, 0))) ∧ Aside0 (wc.heap[gb365]? = some (.cells #[.int .i64 t358, .int .i64 t359, (.slice Ao36 t360.length co36), .string t363] 48 (0, 0))) ∧ Aside0 (Below w.heap.size w wc))
  case first =>
   have H := HC11.out
   clear HC11
   replace H := Option.bind_eq_some_iff.mp H
   obtain ⟨t366, A370, H⟩ := H
   try dsimp only at H
   have A37 := Aside0.mk A370
   clear A370
   by_cases c38 : t366 = true
   ·subst c38
    have H1 : (laws_FnExactNewestSnap.j0 k t352 t364 (t364 != t352) l0_0 t346 t347 t348 t351 t354 t358 t359 t360 t363) = some r := by rw [if_pos rfl] at H; exact H
    clear H
    have H := H1
    clear H1
    have H' := Aside0.mk H
    clear H
    have hnb39 := NB365_341.out
    have hnc39 := NB341_365.out
    have hnb40 := NB365_353.out
    have hnc40 := NB353_365.out
    have hnb41 := NB365_357.out
    have hnc41 := NB357_365.out
    obtain ⟨hcz42_0, hcz42_1, hcz42_2, hcz42_3, hfz42_0, hfz42_1, hfz42_2, hfz42_3⟩ := zc4 BK365.out
    have hnb43 := NB353_341.out
    have hnc43 := NB341_353.out
    have hnb44 := NB353_357.out
    have hnc44 := NB357_353.out
    obtain ⟨hcz45_0, hcz45_1, hcz45_2, hcz45_3, hfz45_0, hfz45_1, hfz45_2, hfz45_3⟩ := zc4 BK353.out
    go_wp2_with (first | ((with_reducible refine gate_callee (f := 28) rfl ?_); refine goesL_ (some 34) rfl rfl Tryd.func28 (by kernel_rfl) rfl #[.agg #[.int .i64 t358, .int .i64 t359, .slice Ao36 t360.length co36, .string t363], .agg #[.int .i64 t346, .int .i64 t347, .slice Ao22 t348.length co22, .string t351]] rfl zr ?_; (with_reducible refine (laws_eqSnap.calls k t358 t359 _ _ t360 t363 t346 t347 _ _ t348 t351 true _ ?side1 ?side2 ?side3 ?side4 A37.out).mono ?_); (case side1 => refine (Kd.R_reads' (e := 3) (base := w.heap.size) (ok := fun k_ => (True ∧ some k_ ≠ (.slice Ao22 t348.length co22 : Value).ownBlock)) (n := t360.length) (c := co36) ?_).2.2; exact (rx ((Kd.R_mono (Kd.R_far (p := ⟨gb365, 3, none⟩) (Kd.R_far (p := ⟨gb365, 2, none⟩) (Kd.R_far (p := ⟨gb365, 1, none⟩) (Kd.R_far (p := ⟨gb365, 0, none⟩) (Kd.R_types HO362.out BK365.out (by decide)) (fun _ hk => hk.2) (.int .i64 t358)) (fun _ hk => hk.2) (.int .i64 t359)) (fun _ hk => hk.2) (.slice Ao36 t360.length co36)) (fun _ hk => hk.2) (.string t363)) (fun _ h_ => h_.1))))); (case side2 => exact (Kd.R_reads' HO362.out).2.1); (case side3 => refine (Kd.R_reads' (e := 3) (base := w.heap.size) (ok := fun k_ => (True ∧ some k_ ≠ (.slice Ao36 t360.length co36 : Value).ownBlock)) (n := t348.length) (c := co22) ?_).2.2; exact (rx ((Kd.R_mono (Kd.R_far (p := ⟨gb365, 3, none⟩) (Kd.R_far (p := ⟨gb365, 2, none⟩) (Kd.R_far (p := ⟨gb365, 1, none⟩) (Kd.R_far (p := ⟨gb365, 0, none⟩) (Kd.R_types HO350.out BK365.out (by decide)) (fun _ hk => hk.2) (.int .i64 t358)) (fun _ hk => hk.2) (.int .i64 t359)) (fun _ hk => hk.2) (.slice Ao36 t360.length co36)) (fun _ hk => hk.2) (.string t363)) (fun _ h_ => h_.1))))); (case side4 => exact (Kd.R_reads' HO350.out).2.1); rintro e w46 ⟨rfl, hb⟩; refine ⟨_, rfl, ?_⟩; replace HO345 := am (Kd.R_below (rx ((Kd.R_mono (Kd.R_far (p := ⟨gb365, 3, none⟩) (Kd.R_far (p := ⟨gb365, 2, none⟩) (Kd.R_far (p := ⟨gb365, 1, none⟩) (Kd.R_far (p := ⟨gb365, 0, none⟩) (Kd.R_types HO345.out BK365.out (by decide)) (fun _ hk => hk.2) (.int .i64 t358)) (fun _ hk => hk.2) (.int .i64 t359)) (fun _ hk => hk.2) (.slice Ao36 t360.length co36)) (fun _ hk => hk.2) (.string t363)) (fun _ h_ => h_.1)))) hb); replace HO350 := am (Kd.R_below (rx ((Kd.R_mono (Kd.R_far (p := ⟨gb365, 3, none⟩) (Kd.R_far (p := ⟨gb365, 2, none⟩) (Kd.R_far (p := ⟨gb365, 1, none⟩) (Kd.R_far (p := ⟨gb365, 0, none⟩) (Kd.R_types HO350.out BK365.out (by decide)) (fun _ hk => hk.2) (.int .i64 t358)) (fun _ hk => hk.2) (.int .i64 t359)) (fun _ hk => hk.2) (.slice Ao36 t360.length co36)) (fun _ hk => hk.2) (.string t363)) (fun _ h_ => h_.1)))) hb); replace HO356 := am (Kd.R_below (rx ((Kd.R_mono (Kd.R_far (p := ⟨gb365, 3, none⟩) (Kd.R_far (p := ⟨gb365, 2, none⟩) (Kd.R_far (p := ⟨gb365, 1, none⟩) (Kd.R_far (p := ⟨gb365, 0, none⟩) (Kd.R_types HO356.out BK365.out (by decide)) (fun _ hk => hk.2) (.int .i64 t358)) (fun _ hk => hk.2) (.int .i64 t359)) (fun _ hk => hk.2) (.slice Ao36 t360.length co36)) (fun _ hk => hk.2) (.string t363)) (fun _ h_ => h_.1)))) hb); replace HO362 := am (Kd.R_below (rx ((Kd.R_mono (Kd.R_far (p := ⟨gb365, 3, none⟩) (Kd.R_far (p := ⟨gb365, 2, none⟩) (Kd.R_far (p := ⟨gb365, 1, none⟩) (Kd.R_far (p := ⟨gb365, 0, none⟩) (Kd.R_types HO362.out BK365.out (by decide)) (fun _ hk => hk.2) (.int .i64 t358)) (fun _ hk => hk.2) (.int .i64 t359)) (fun _ hk => hk.2) (.slice Ao36 t360.length co36)) (fun _ hk => hk.2) (.string t363)) (fun _ h_ => h_.1)))) hb); replace BK341 := am (bb hb (zf1 BK341.out NB341_365.out)); replace BK353 := am (bb hb (zf1 BK353.out NB353_365.out)); replace BK357 := am (bb hb (zf1 BK357.out NB357_365.out)); replace BK365 := am (blk_below (g := gb365) (o := .cells #[.int .i64 t358, .int .i64 t359, .slice Ao36 t360.length co36, .string t363] 48 (0, 0)) (by (with_reducible repeat (first | refine blk_drewN ?_ _ | refine blk_drew ?_ | refine blk_alloc ?_ _)); refine blk_put (cs := #[.int .i64 t358, .int .i64 t359, .slice Ao36 t360.length co36, .string (⟨#[]⟩ : ByteArray)]) ?_ 3 _ rfl; (with_reducible repeat (first | refine blk_drewN ?_ _ | refine blk_drew ?_ | refine blk_alloc ?_ _)); refine blk_put (cs := #[.int .i64 t358, .int .i64 t359, .slice none 0 0, .string (⟨#[]⟩ : ByteArray)]) ?_ 2 _ rfl; (with_reducible repeat (first | refine blk_drewN ?_ _ | refine blk_drew ?_ | refine blk_alloc ?_ _)); refine blk_put (cs := #[.int .i64 t358, .int .i64 0, .slice none 0 0, .string (⟨#[]⟩ : ByteArray)]) ?_ 1 _ rfl; (with_reducible repeat (first | refine blk_drewN ?_ _ | refine blk_drew ?_ | refine blk_alloc ?_ _)); refine blk_put (cs := #[.int .i64 0, .int .i64 0, .slice none 0 0, .string (⟨#[]⟩ : ByteArray)]) ?_ 0 _ rfl; (with_reducible repeat (first | refine blk_drewN ?_ _ | refine blk_drew ?_ | refine blk_alloc ?_ _)); exact BK365.out) hb); replace HB := am (below_step (zb4 HB.out GE341.out GE353.out GE357.out GE365.out) hb); (try clear hb); (try clear hb2); (try clear hk); (try clear hi)))
    go_meet
    case rel => exact ⟨_, ((t364 != t352)), (by first | rfl | (simp; done) | (simp [*]; done)), H', ⟨by first | omega | exact Nat.le_refl _⟩, ⟨rx (Kd.R_mono HO350.out (fun _ hk => hk.2))⟩, ⟨rx (Kd.R_mono HO356.out (fun _ hk => trivial))⟩, ⟨rx (Kd.R_mono HO362.out (fun _ hk => hk.2))⟩, ⟨kx BK341.out⟩, ⟨kx BK353.out⟩, ⟨kx BK357.out⟩, ⟨kx BK365.out⟩, ⟨zb4 HB.out GE341.out GE353.out GE357.out GE365.out⟩⟩
   ·replace c38 := Bool.eq_false_iff.mpr c38
    subst c38
    have H1 : (laws_FnExactNewestSnap.j0 k t352 t364 true l0_0 t346 t347 t348 t351 t354 t358 t359 t360 t363) = some r := by rw [if_neg (show ¬ (false = true) by decide)] at H; exact H
    clear H
    have H := H1
    clear H1
    have H' := Aside0.mk H
    clear H
    have hnb47 := NB365_341.out
    have hnc47 := NB341_365.out
    have hnb48 := NB365_353.out
    have hnc48 := NB353_365.out
    have hnb49 := NB365_357.out
    have hnc49 := NB357_365.out
    obtain ⟨hcz50_0, hcz50_1, hcz50_2, hcz50_3, hfz50_0, hfz50_1, hfz50_2, hfz50_3⟩ := zc4 BK365.out
    have hnb51 := NB353_341.out
    have hnc51 := NB341_353.out
    have hnb52 := NB353_357.out
    have hnc52 := NB357_353.out
    obtain ⟨hcz53_0, hcz53_1, hcz53_2, hcz53_3, hfz53_0, hfz53_1, hfz53_2, hfz53_3⟩ := zc4 BK353.out
    go_wp2_with (first | ((with_reducible refine gate_callee (f := 28) rfl ?_); refine goesL_ (some 34) rfl rfl Tryd.func28 (by kernel_rfl) rfl #[.agg #[.int .i64 t358, .int .i64 t359, .slice Ao36 t360.length co36, .string t363], .agg #[.int .i64 t346, .int .i64 t347, .slice Ao22 t348.length co22, .string t351]] rfl zr ?_; (with_reducible refine (laws_eqSnap.calls k t358 t359 _ _ t360 t363 t346 t347 _ _ t348 t351 false _ ?side1 ?side2 ?side3 ?side4 A37.out).mono ?_); (case side1 => refine (Kd.R_reads' (e := 3) (base := w.heap.size) (ok := fun k_ => (True ∧ some k_ ≠ (.slice Ao22 t348.length co22 : Value).ownBlock)) (n := t360.length) (c := co36) ?_).2.2; exact (rx ((Kd.R_mono (Kd.R_far (p := ⟨gb365, 3, none⟩) (Kd.R_far (p := ⟨gb365, 2, none⟩) (Kd.R_far (p := ⟨gb365, 1, none⟩) (Kd.R_far (p := ⟨gb365, 0, none⟩) (Kd.R_types HO362.out BK365.out (by decide)) (fun _ hk => hk.2) (.int .i64 t358)) (fun _ hk => hk.2) (.int .i64 t359)) (fun _ hk => hk.2) (.slice Ao36 t360.length co36)) (fun _ hk => hk.2) (.string t363)) (fun _ h_ => h_.1))))); (case side2 => exact (Kd.R_reads' HO362.out).2.1); (case side3 => refine (Kd.R_reads' (e := 3) (base := w.heap.size) (ok := fun k_ => (True ∧ some k_ ≠ (.slice Ao36 t360.length co36 : Value).ownBlock)) (n := t348.length) (c := co22) ?_).2.2; exact (rx ((Kd.R_mono (Kd.R_far (p := ⟨gb365, 3, none⟩) (Kd.R_far (p := ⟨gb365, 2, none⟩) (Kd.R_far (p := ⟨gb365, 1, none⟩) (Kd.R_far (p := ⟨gb365, 0, none⟩) (Kd.R_types HO350.out BK365.out (by decide)) (fun _ hk => hk.2) (.int .i64 t358)) (fun _ hk => hk.2) (.int .i64 t359)) (fun _ hk => hk.2) (.slice Ao36 t360.length co36)) (fun _ hk => hk.2) (.string t363)) (fun _ h_ => h_.1))))); (case side4 => exact (Kd.R_reads' HO350.out).2.1); rintro e w54 ⟨rfl, hb⟩; refine ⟨_, rfl, ?_⟩; replace HO345 := am (Kd.R_below (rx ((Kd.R_mono (Kd.R_far (p := ⟨gb365, 3, none⟩) (Kd.R_far (p := ⟨gb365, 2, none⟩) (Kd.R_far (p := ⟨gb365, 1, none⟩) (Kd.R_far (p := ⟨gb365, 0, none⟩) (Kd.R_types HO345.out BK365.out (by decide)) (fun _ hk => hk.2) (.int .i64 t358)) (fun _ hk => hk.2) (.int .i64 t359)) (fun _ hk => hk.2) (.slice Ao36 t360.length co36)) (fun _ hk => hk.2) (.string t363)) (fun _ h_ => h_.1)))) hb); replace HO350 := am (Kd.R_below (rx ((Kd.R_mono (Kd.R_far (p := ⟨gb365, 3, none⟩) (Kd.R_far (p := ⟨gb365, 2, none⟩) (Kd.R_far (p := ⟨gb365, 1, none⟩) (Kd.R_far (p := ⟨gb365, 0, none⟩) (Kd.R_types HO350.out BK365.out (by decide)) (fun _ hk => hk.2) (.int .i64 t358)) (fun _ hk => hk.2) (.int .i64 t359)) (fun _ hk => hk.2) (.slice Ao36 t360.length co36)) (fun _ hk => hk.2) (.string t363)) (fun _ h_ => h_.1)))) hb); replace HO356 := am (Kd.R_below (rx ((Kd.R_mono (Kd.R_far (p := ⟨gb365, 3, none⟩) (Kd.R_far (p := ⟨gb365, 2, none⟩) (Kd.R_far (p := ⟨gb365, 1, none⟩) (Kd.R_far (p := ⟨gb365, 0, none⟩) (Kd.R_types HO356.out BK365.out (by decide)) (fun _ hk => hk.2) (.int .i64 t358)) (fun _ hk => hk.2) (.int .i64 t359)) (fun _ hk => hk.2) (.slice Ao36 t360.length co36)) (fun _ hk => hk.2) (.string t363)) (fun _ h_ => h_.1)))) hb); replace HO362 := am (Kd.R_below (rx ((Kd.R_mono (Kd.R_far (p := ⟨gb365, 3, none⟩) (Kd.R_far (p := ⟨gb365, 2, none⟩) (Kd.R_far (p := ⟨gb365, 1, none⟩) (Kd.R_far (p := ⟨gb365, 0, none⟩) (Kd.R_types HO362.out BK365.out (by decide)) (fun _ hk => hk.2) (.int .i64 t358)) (fun _ hk => hk.2) (.int .i64 t359)) (fun _ hk => hk.2) (.slice Ao36 t360.length co36)) (fun _ hk => hk.2) (.string t363)) (fun _ h_ => h_.1)))) hb); replace BK341 := am (bb hb (zf1 BK341.out NB341_365.out)); replace BK353 := am (bb hb (zf1 BK353.out NB353_365.out)); replace BK357 := am (bb hb (zf1 BK357.out NB357_365.out)); replace BK365 := am (blk_below (g := gb365) (o := .cells #[.int .i64 t358, .int .i64 t359, .slice Ao36 t360.length co36, .string t363] 48 (0, 0)) (by (with_reducible repeat (first | refine blk_drewN ?_ _ | refine blk_drew ?_ | refine blk_alloc ?_ _)); refine blk_put (cs := #[.int .i64 t358, .int .i64 t359, .slice Ao36 t360.length co36, .string (⟨#[]⟩ : ByteArray)]) ?_ 3 _ rfl; (with_reducible repeat (first | refine blk_drewN ?_ _ | refine blk_drew ?_ | refine blk_alloc ?_ _)); refine blk_put (cs := #[.int .i64 t358, .int .i64 t359, .slice none 0 0, .string (⟨#[]⟩ : ByteArray)]) ?_ 2 _ rfl; (with_reducible repeat (first | refine blk_drewN ?_ _ | refine blk_drew ?_ | refine blk_alloc ?_ _)); refine blk_put (cs := #[.int .i64 t358, .int .i64 0, .slice none 0 0, .string (⟨#[]⟩ : ByteArray)]) ?_ 1 _ rfl; (with_reducible repeat (first | refine blk_drewN ?_ _ | refine blk_drew ?_ | refine blk_alloc ?_ _)); refine blk_put (cs := #[.int .i64 0, .int .i64 0, .slice none 0 0, .string (⟨#[]⟩ : ByteArray)]) ?_ 0 _ rfl; (with_reducible repeat (first | refine blk_drewN ?_ _ | refine blk_drew ?_ | refine blk_alloc ?_ _)); exact BK365.out) hb); replace HB := am (below_step (zb4 HB.out GE341.out GE353.out GE357.out GE365.out) hb); (try clear hb); (try clear hb2); (try clear hk); (try clear hi)))
    go_meet
    case rel => exact ⟨_, (true), (by first | rfl | (simp; done) | (simp [*]; done)), H', ⟨by first | omega | exact Nat.le_refl _⟩, ⟨rx (Kd.R_mono HO350.out (fun _ hk => hk.2))⟩, ⟨rx (Kd.R_mono HO356.out (fun _ hk => trivial))⟩, ⟨rx (Kd.R_mono HO362.out (fun _ hk => hk.2))⟩, ⟨kx BK341.out⟩, ⟨kx BK353.out⟩, ⟨kx BK357.out⟩, ⟨kx BK365.out⟩, ⟨zb4 HB.out GE341.out GE353.out GE357.out GE365.out⟩⟩
  case rest =>
   clear HC11
   try clear c2
   try clear p2
   try clear c3
   try clear c3b0
   try clear c4
   try clear c5
   try clear c6
   try clear c20
   try clear c24
   try clear c25
   try clear c26
   try clear c27
   try clear c28
   try clear c32
   try clear c33
   try clear c34
   try clear c38
   try clear c39
   try clear c40
   try clear c41
   try clear c43
   try clear c44
   try clear c47
   try clear c48
   try clear c49
   try clear c51
   try clear c52
   try clear hcz13_0
   try clear hcz15_0
   try clear hcz21_0
   try clear hcz21_1
   try clear hcz21_2
   try clear hcz21_3
   try clear hcz23_0
   try clear hcz29_0
   try clear hcz35_0
   try clear hcz35_1
   try clear hcz35_2
   try clear hcz35_3
   try clear hcz42_0
   try clear hcz42_1
   try clear hcz42_2
   try clear hcz42_3
   try clear hcz45_0
   try clear hcz45_1
   try clear hcz45_2
   try clear hcz45_3
   try clear hcz50_0
   try clear hcz50_1
   try clear hcz50_2
   try clear hcz50_3
   try clear hcz53_0
   try clear hcz53_1
   try clear hcz53_2
   try clear hcz53_3
   try clear hcz5_0
   try clear hfz13_0
   try clear hfz15_0
   try clear hfz21_0
   try clear hfz21_1
   try clear hfz21_2
   try clear hfz21_3
   try clear hfz23_0
   try clear hfz29_0
   try clear hfz35_0
   try clear hfz35_1
   try clear hfz35_2
   try clear hfz35_3
   try clear hfz42_0
   try clear hfz42_1
   try clear hfz42_2
   try clear hfz42_3
   try clear hfz45_0
   try clear hfz45_1
   try clear hfz45_2
   try clear hfz45_3
   try clear hfz50_0
   try clear hfz50_1
   try clear hfz50_2
   try clear hfz50_3
   try clear hfz53_0
   try clear hfz53_1
   try clear hfz53_2
   try clear hfz53_3
   try clear hfz5_0
   obtain ⟨kq, x40_10, rfl, HA, HJ10, HO_354002, HO_358000, HO_366002, BK341, BK353, BK357, BK365, HB⟩ := hcut
   cases kq with
   | zero => exact absurd HA.out (by simp [laws_FnExactNewestSnap.j0])
   | succ kj10 =>
    have H := HA.out
    clear HA
    simp only [laws_FnExactNewestSnap.j0] at H
    by_cases c55 : x40_10 = true
    ·subst c55
     have H1 : (some false) = some r := by rw [if_pos rfl] at H; exact H
     clear H
     have H := H1
     clear H1
     exact absurd ((Option.some.inj H).trans HLT.out) (by decide)
    ·replace c55 := Bool.eq_false_iff.mpr c55
     subst c55
     have H1 : ((laws_toDisk.f kj10 l0_0).bind fun t367 => ((laws_eqDisk.f kj10 t354 t367).bind fun t370 => (if t370 = true then ((laws_markDisk.f kj10 t354 1).bind fun bt371 => (if bt371.1 < 0 then (laws_FnExactNewestSnap.j1 kj10 t352 true l0_0 t346 t347 t348 t351 t358 t359 t360 t363) else ((laws_eqSnap.f kj10 t358 t359 t360 t363 t346 t347 t348 t351).bind fun t373 => (if t373 = true then (laws_FnExactNewestSnap.j1 kj10 t352 (t364 != t352) l0_0 t346 t347 t348 t351 t358 t359 t360 t363) else (laws_FnExactNewestSnap.j1 kj10 t352 true l0_0 t346 t347 t348 t351 t358 t359 t360 t363))))) else (some false)))) = some r := by rw [if_neg (show ¬ (false = true) by decide)] at H; exact H
     clear H
     have H := H1
     clear H1
     replace H := Option.bind_eq_some_iff.mp H
     obtain ⟨t367, A560, H⟩ := H
     try dsimp only at H
     have A56 := Aside0.mk A560
     clear A560
     replace H := Option.bind_eq_some_iff.mp H
     obtain ⟨t370, A570, H⟩ := H
     try dsimp only at H
     have A57 := Aside0.mk A570
     clear A570
     by_cases c58 : t370 = true
     ·subst c58
      have H1 : ((laws_markDisk.f kj10 t354 1).bind fun bt371 => (if bt371.1 < 0 then (laws_FnExactNewestSnap.j1 kj10 t352 true l0_0 t346 t347 t348 t351 t358 t359 t360 t363) else ((laws_eqSnap.f kj10 t358 t359 t360 t363 t346 t347 t348 t351).bind fun t373 => (if t373 = true then (laws_FnExactNewestSnap.j1 kj10 t352 (t364 != t352) l0_0 t346 t347 t348 t351 t358 t359 t360 t363) else (laws_FnExactNewestSnap.j1 kj10 t352 true l0_0 t346 t347 t348 t351 t358 t359 t360 t363))))) = some r := by rw [if_pos rfl] at H; exact H
      clear H
      have H := H1
      clear H1
      replace H := Option.bind_eq_some_iff.mp H
      obtain ⟨⟨t371, t372⟩, A590, H⟩ := H
      try dsimp only at H
      have A59 := Aside0.mk A590
      clear A590
      have HC60 := Aside0.mk H
      clear H
      try go_wp2
      replace HO_354002 := am (Kd.R_drew HO_354002.out)
      replace HO_358000 := am (Kd.R_drew HO_358000.out)
      replace HO_366002 := am (Kd.R_drew HO_366002.out)
      replace BK341 := am (blk_drew BK341.out)
      replace BK353 := am (blk_drew BK353.out)
      replace BK357 := am (blk_drew BK357.out)
      replace BK365 := am (blk_drew BK365.out)
      replace HB := am (below_drew1 HB.out)
      refine start_ (n := 5) (S := fun w' => w'.cell? ⟨gb357, 0, none⟩ = some (.slice Ao26 t354.length co26) ∧ w'.cell? ⟨gb341, 0, none⟩ = some (.slice A0_0 l0_0.length c0_0)) (ds := []) #[false, false, false, false, false] (by kernel_rfl) rfl rfl ⟨ct BK357.out 0, ct BK341.out 0⟩ (fun hHeld => ?_)
      generalize wc.drew = w61 at HO_354002 HO_358000 HO_366002 BK341 BK353 BK357 BK365 HB hHeld ⊢
      refine take_ (i := 0) (N := some 41) (v := ?_) (a' := ?_) #[true, false, false, false, false] rfl rfl (by kernel_rfl) (fun _ _ _ h => h) (Or.inl ⟨by rfl, ?_⟩) hHeld ?_ ?_
      rotate_left
      ·rintro w' ⟨s0, s1⟩
       go_simp
       with_reducible rfl
      rotate_left
      ·simp only [Act.put, List.setIfInBounds_toArray, List.set_cons_zero, List.set_cons_succ, i64_w, i32_w]
       rfl
      refine take_ (i := 1) (N := some 42) (v := ?_) (a' := ?_) #[true, true, false, false, false] rfl rfl (by kernel_rfl) (fun _ _ _ h => h) (Or.inl ⟨by rfl, ?_⟩) hHeld ?_ ?_
      rotate_left
      ·rintro w' ⟨s0, s1⟩
       go_simp
       with_reducible rfl
      rotate_left
      ·simp only [Act.put, List.setIfInBounds_toArray, List.set_cons_zero, List.set_cons_succ, i64_w, i32_w]
       rfl
      refine one_ (i := 2) (N := some 43) #[true, true, true, false, false] rfl rfl (by kernel_rfl) (by decide) (fun K hK => ?_)
      refine goes_ Tryd.func26 (by kernel_rfl) rfl #[.agg #[.slice A0_0 l0_0.length c0_0]] (by rfl) rfl rfl zr ?_
      with_reducible refine (laws_toDisk.calls kj10 _ _ l0_0 t367 _ ?side1 ?side2 A56.out).mono ?_
      (case side1 => repeat (first | exact (Kd.C_below HR0_0.out HB.out) | (with_reducible refine Kd.C_alloc ?_ _) | (with_reducible refine Kd.C_drewN ?_ _) | (with_reducible refine Kd.C_drew ?_)))
      (case side2 => exact HC0_0.out)
      rintro e w62 ⟨v368, rfl, ho0, hb⟩
      refine ⟨_, rfl, ?_⟩
      have HO369 := am (Kd.R_lower (Kd.R_new' ho0 (Kd.R_lt (rx HO_358000.out))) (below_size (zb4 HB.out GE341.out GE353.out GE357.out GE365.out)))
      replace HO_354002 := am (Kd.R_below (rx HO_354002.out) hb)
      replace HO_358000 := am (Kd.R_elder' (rx HO_358000.out) (Kd.R_base ho0) hb)
      replace HO_366002 := am (Kd.R_below (rx HO_366002.out) hb)
      replace BK341 := am (bb hb (kx BK341.out))
      replace BK353 := am (bb hb (kx BK353.out))
      replace BK357 := am (bb hb (kx BK357.out))
      replace BK365 := am (bb hb (kx BK365.out))
      replace HB := am (below_step (zb4 HB.out GE341.out GE353.out GE357.out GE365.out) hb)
      (try clear hb)
      (try clear hb2)
      (try clear hk)
      (try clear hi)
      (try clear ho0)
      obtain ⟨Ao63, co63, eo63⟩ := Kd.R_slice HO369.out
      (first | subst eo63 | (injection eo63 with f1_ f2_ f3_; have f4_ := f1_.symm; have f5_ := f3_.symm; clear f1_ f2_ f3_; subst f4_; subst f5_))
      refine hK.out _ _ ⟨ct BK357.out 0, ct BK341.out 0⟩ (fun hHeld => ?_)
      clear hK K
      refine norm_ (a' := ?_) ?_ ?_
      rotate_left
      ·show Act.put _ (some 43) _ = _
       simp only [Act.put, List.setIfInBounds_toArray, List.set_cons_zero, List.set_cons_succ, i64_w, i32_w]
       rfl
      refine one_ (i := 3) (N := some 44) #[true, true, true, true, false] rfl rfl (by kernel_rfl) (by decide) (fun K hK => ?_)
      refine goes_ Tryd.func29 (by kernel_rfl) rfl #[.agg #[.slice Ao26 t354.length co26], .agg #[.slice Ao63 t367.length co63]] (by rfl) rfl rfl zr ?_
      with_reducible refine (laws_eqDisk.calls kj10 _ _ t354 _ _ t367 true _ ?side1 ?side2 ?side3 ?side4 A57.out).mono ?_
      (case side1 => repeat (first | exact (Kd.R_reads' HO_358000.out).2.2 | (with_reducible refine Kd.C_alloc ?_ _) | (with_reducible refine Kd.C_drewN ?_ _) | (with_reducible refine Kd.C_drew ?_)))
      (case side2 => exact (Kd.R_reads' HO_358000.out).2.1)
      (case side3 => repeat (first | exact (Kd.R_reads' HO369.out).2.2 | (with_reducible refine Kd.C_alloc ?_ _) | (with_reducible refine Kd.C_drewN ?_ _) | (with_reducible refine Kd.C_drew ?_)))
      (case side4 => exact (Kd.R_reads' HO369.out).2.1)
      rintro e w64 ⟨rfl, hb⟩
      refine ⟨_, rfl, ?_⟩
      replace HO_354002 := am (Kd.R_below (rx HO_354002.out) hb)
      replace HO_358000 := am (Kd.R_below (rx HO_358000.out) hb)
      replace HO_366002 := am (Kd.R_below (rx HO_366002.out) hb)
      replace HO369 := am (Kd.R_below (rx HO369.out) hb)
      replace BK341 := am (bb hb (kx BK341.out))
      replace BK353 := am (bb hb (kx BK353.out))
      replace BK357 := am (bb hb (kx BK357.out))
      replace BK365 := am (bb hb (kx BK365.out))
      replace HB := am (below_step (zb4 HB.out GE341.out GE353.out GE357.out GE365.out) hb)
      (try clear hb)
      (try clear hb2)
      (try clear hk)
      (try clear hi)
      refine hK.out _ _ ⟨ct BK357.out 0, ct BK341.out 0⟩ (fun hHeld => ?_)
      clear hK K
      refine norm_ (a' := ?_) ?_ ?_
      rotate_left
      ·show Act.put _ (some 44) _ = _
       simp only [Act.put, List.setIfInBounds_toArray, List.set_cons_zero, List.set_cons_succ, i64_w, i32_w]
       rfl
      refine pure_ (i := 4) (N := some 45) (v := ?_) (a' := ?_) #[true, true, true, true, true] rfl rfl (by kernel_rfl) (fun _ _ _ h => h) (Or.inl ⟨by rfl, ?_⟩) ?_ ?_
      rotate_left
      ·intro w'
       go_simp
       with_reducible rfl
      rotate_left
      ·simp only [Act.put, List.setIfInBounds_toArray, List.set_cons_zero, List.set_cons_succ, i64_w, i32_w]
       rfl
      refine done_ (by kernel_rfl) ?_
      have hnb65 := NB357_341.out
      have hnc65 := NB341_357.out
      have hnb66 := NB357_353.out
      have hnc66 := NB353_357.out
      have hnb67 := NB357_365.out
      have hnc67 := NB365_357.out
      obtain ⟨hcz68_0, hfz68_0⟩ := zc1 BK357.out
      go_upto_region 14 with (first | ((with_reducible refine gate_callee (f := 30) rfl ?_); refine goesL_ (some 48) rfl rfl Tryd.func30 (by kernel_rfl) rfl #[.agg #[.slice Ao26 t354.length co26], .int .i64 1] rfl zr ?_; (with_reducible refine (laws_markDisk.calls kj10 (fun k_ => some k_ = (.slice Ao26 t354.length co26 : Value).ownBlock) (.slice Ao26 t354.length co26) t354 1 t371 t372 w _ ?side1 ?side2 A59.out).mono ?_); (case side1 => repeat (first | (with_reducible first | exact HB.out | apply below_alloc | apply pw_below_drewN | apply below_drew1 | refine below_set ?_ GE341.out | refine below_set ?_ GE353.out | refine below_set ?_ GE357.out | refine below_set ?_ GE365.out) | exact HB.out)); (case side2 => exact Kd.R_tight rfl HO_358000.out); rintro e w69 ⟨rfl, hy0, hb, hkp⟩; refine ⟨_, rfl, ?_⟩; replace HO_354002 := am (Kd.R_mono (ok' := fun k_ => some k_ ≠ (.slice Ao36 t360.length co36 : Value).ownBlock) (Kd.R_keptB ((Kd.R_apart' HO_354002.out (Kd.R_typed HO_358000.out) (by decide))) hkp (fun k_ hk_ hs_ => (hk_.2) hs_)) (fun k_ hk_ => hk_.1.1)); replace HO_366002 := am (Kd.R_mono (ok' := fun k_ => some k_ ≠ (.slice Ao22 t348.length co22 : Value).ownBlock) (Kd.R_keptB ((Kd.R_apart' HO_366002.out (Kd.R_typed HO_358000.out) (by decide))) hkp (fun k_ hk_ hs_ => (hk_.2) hs_)) (fun k_ hk_ => hk_.1.1)); replace BK341 := am (blk_kept (g := gb341) (kx BK341.out) hkp (fun hs_ => (fun e_ => (Kd.R_ne HO_358000.out BK341.out (by decide)) e_) hs_)); replace BK353 := am (blk_kept (g := gb353) (kx BK353.out) hkp (fun hs_ => (fun e_ => (Kd.R_ne HO_358000.out BK353.out (by decide)) e_) hs_)); replace BK357 := am (blk_kept (g := gb357) (kx BK357.out) hkp (fun hs_ => (fun e_ => (Kd.R_ne HO_358000.out BK357.out (by decide)) e_) hs_)); replace BK365 := am (blk_kept (g := gb365) (kx BK365.out) hkp (fun hs_ => (fun e_ => (Kd.R_ne HO_358000.out BK365.out (by decide)) e_) hs_)); replace HO_358000 := am (Kd.R_reok rfl hy0 (fun k_ e_ => HO_358000.out.1 k_ e_)); replace HO369 := am (Kd.R_mono (ok' := fun k_ => some k_ ≠ (.slice Ao26 t354.length co26 : Value).ownBlock) (Kd.R_keptB (HO369.out) hkp (fun k_ hk_ hs_ => (hk_.2) hs_)) (fun k_ hk_ => hk_.1.2)); replace HB := am (hb); (try clear hb); (try clear hkp); (try clear hy0)))
      (try simp only [Act.put, List.setIfInBounds_toArray, List.set_cons_zero, List.set_cons_succ])
      go_cut [61] (fun v61 wc => ∃ (kq : Nat) (x61_59 : Bool), v61 = .bool x61_59 ∧ Aside0 (laws_FnExactNewestSnap.j1 kq t352 x61_59 l0_0 t346 t347 t348 t351 t358 t359 t360 t363 = some r) ∧ Aside0 (kq ≤ kj10) ∧ Aside0 (Kd.R (Kd.int .i64) 3 wc w.heap.size (fun k_ => some k_ ≠ ((.slice Ao36 t360.length co36) : Value).ownBlock) (.slice Ao22 t348.length co22) t348) ∧ Aside0 (Kd.R k78 78 wc w.heap.size (fun _ => True) (.slice Ao26 t354.length co26) t372) ∧ Aside0 (Kd.R (Kd.int .i64) 3 wc w.heap.size (fun k_ => some k_ ≠ ((.slice Ao22 t348.length co22) : Value).ownBlock) (.slice Ao36 t360.length co36) t360) ∧ Aside0 (wc.heap[gb341]? = some (.cells #[(.slice A0_0 l0_0.length c0_0)] 44 (0, 0))) ∧ Aside0 (wc.heap[gb353]? = some (.cells #[.int .i64 t346, .int .i64 t347, (.slice Ao22 t348.length co22), .string t351] 48 (0, 0))) ∧ Aside0 (wc.heap[gb357]? = some (.cells #[(.slice Ao26 t354.length co26)] 53 (0, 0))) ∧ Aside0 (wc.heap[gb365]? = some (.cells #[.int .i64 t358, .int .i64 t359, (.slice Ao36 t360.length co36), .string t363] 48 (0, 0))) ∧ Aside0 (Below w.heap.size w wc))
      case first =>
       have H := HC60.out
       clear HC60
       by_cases c70 : t371 < 0
       ·rw [if_pos c70] at H
        have c70b0 : decide (t371 < 0) = true := decide_eq_true c70
        clear c70
        (first | rw [c70b0] | (simp only [i64_w, i32_w]; rw [c70b0]) | skip)
        have H' := Aside0.mk H
        clear H
        go_wp2
        go_meet
        case rel => exact ⟨_, (true), (by first | rfl | (simp; done) | (simp [*]; done)), H', ⟨by have := HJ10.out; first | omega | exact Nat.le_refl _⟩, ⟨rx HO_354002.out⟩, ⟨rx (Kd.R_mono HO_358000.out (fun _ hk => trivial))⟩, ⟨rx HO_366002.out⟩, ⟨kx BK341.out⟩, ⟨kx BK353.out⟩, ⟨kx BK357.out⟩, ⟨kx BK365.out⟩, ⟨zb4 HB.out GE341.out GE353.out GE357.out GE365.out⟩⟩
       ·rw [if_neg c70] at H
        have c70b0 : decide (t371 < 0) = false := decide_eq_false c70
        clear c70
        (first | rw [c70b0] | (simp only [i64_w, i32_w]; rw [c70b0]) | skip)
        replace H := Option.bind_eq_some_iff.mp H
        obtain ⟨t373, A710, H⟩ := H
        try dsimp only at H
        have A71 := Aside0.mk A710
        clear A710
        by_cases c72 : t373 = true
        ·subst c72
         have H1 : (laws_FnExactNewestSnap.j1 kj10 t352 (t364 != t352) l0_0 t346 t347 t348 t351 t358 t359 t360 t363) = some r := by rw [if_pos rfl] at H; exact H
         clear H
         have H := H1
         clear H1
         have H' := Aside0.mk H
         clear H
         have hnb73 := NB365_341.out
         have hnc73 := NB341_365.out
         have hnb74 := NB365_353.out
         have hnc74 := NB353_365.out
         have hnb75 := NB365_357.out
         have hnc75 := NB357_365.out
         obtain ⟨hcz76_0, hcz76_1, hcz76_2, hcz76_3, hfz76_0, hfz76_1, hfz76_2, hfz76_3⟩ := zc4 BK365.out
         have hnb77 := NB353_341.out
         have hnc77 := NB341_353.out
         have hnb78 := NB353_357.out
         have hnc78 := NB357_353.out
         obtain ⟨hcz79_0, hcz79_1, hcz79_2, hcz79_3, hfz79_0, hfz79_1, hfz79_2, hfz79_3⟩ := zc4 BK353.out
         go_wp2_with (first | (go_at_call 28; (with_reducible refine (laws_eqSnap.calls kj10 t358 t359 _ _ t360 t363 t346 t347 _ _ t348 t351 true _ ?side1 ?side2 ?side3 ?side4 A71.out).mono ?_); (case side1 => repeat (first | exact (Kd.R_reads' HO_366002.out).2.2 | (with_reducible refine Kd.C_alloc ?_ _) | (with_reducible refine Kd.C_drewN ?_ _) | (with_reducible refine Kd.C_drew ?_))); (case side2 => exact (Kd.R_reads' HO_366002.out).2.1); (case side3 => repeat (first | exact (Kd.R_reads' HO_354002.out).2.2 | (with_reducible refine Kd.C_alloc ?_ _) | (with_reducible refine Kd.C_drewN ?_ _) | (with_reducible refine Kd.C_drew ?_))); (case side4 => exact (Kd.R_reads' HO_354002.out).2.1); rintro e w80 ⟨rfl, hb⟩; replace HO_354002 := am (Kd.R_below (rx HO_354002.out) hb); replace HO_358000 := am (Kd.R_below (rx HO_358000.out) hb); replace HO_366002 := am (Kd.R_below (rx HO_366002.out) hb); replace HO369 := am (Kd.R_below (rx HO369.out) hb); replace BK341 := am (bb hb (kx BK341.out)); replace BK353 := am (bb hb (kx BK353.out)); replace BK357 := am (bb hb (kx BK357.out)); replace BK365 := am (bb hb (kx BK365.out)); replace HB := am (below_step (zb4 HB.out GE341.out GE353.out GE357.out GE365.out) hb); (try clear hb); (try clear hb2); (try clear hk); (try clear hi)))
         go_meet
         case rel => exact ⟨_, ((t364 != t352)), (by first | rfl | (simp; done) | (simp [*]; done)), H', ⟨by have := HJ10.out; first | omega | exact Nat.le_refl _⟩, ⟨rx HO_354002.out⟩, ⟨rx (Kd.R_mono HO_358000.out (fun _ hk => trivial))⟩, ⟨rx HO_366002.out⟩, ⟨kx BK341.out⟩, ⟨kx BK353.out⟩, ⟨kx BK357.out⟩, ⟨kx BK365.out⟩, ⟨zb4 HB.out GE341.out GE353.out GE357.out GE365.out⟩⟩
        ·replace c72 := Bool.eq_false_iff.mpr c72
         subst c72
         have H1 : (laws_FnExactNewestSnap.j1 kj10 t352 true l0_0 t346 t347 t348 t351 t358 t359 t360 t363) = some r := by rw [if_neg (show ¬ (false = true) by decide)] at H; exact H
         clear H
         have H := H1
         clear H1
         have H' := Aside0.mk H
         clear H
         have hnb81 := NB365_341.out
         have hnc81 := NB341_365.out
         have hnb82 := NB365_353.out
         have hnc82 := NB353_365.out
         have hnb83 := NB365_357.out
         have hnc83 := NB357_365.out
         obtain ⟨hcz84_0, hcz84_1, hcz84_2, hcz84_3, hfz84_0, hfz84_1, hfz84_2, hfz84_3⟩ := zc4 BK365.out
         have hnb85 := NB353_341.out
         have hnc85 := NB341_353.out
         have hnb86 := NB353_357.out
         have hnc86 := NB357_353.out
         obtain ⟨hcz87_0, hcz87_1, hcz87_2, hcz87_3, hfz87_0, hfz87_1, hfz87_2, hfz87_3⟩ := zc4 BK353.out
         go_wp2_with (first | (go_at_call 28; (with_reducible refine (laws_eqSnap.calls kj10 t358 t359 _ _ t360 t363 t346 t347 _ _ t348 t351 false _ ?side1 ?side2 ?side3 ?side4 A71.out).mono ?_); (case side1 => repeat (first | exact (Kd.R_reads' HO_366002.out).2.2 | (with_reducible refine Kd.C_alloc ?_ _) | (with_reducible refine Kd.C_drewN ?_ _) | (with_reducible refine Kd.C_drew ?_))); (case side2 => exact (Kd.R_reads' HO_366002.out).2.1); (case side3 => repeat (first | exact (Kd.R_reads' HO_354002.out).2.2 | (with_reducible refine Kd.C_alloc ?_ _) | (with_reducible refine Kd.C_drewN ?_ _) | (with_reducible refine Kd.C_drew ?_))); (case side4 => exact (Kd.R_reads' HO_354002.out).2.1); rintro e w88 ⟨rfl, hb⟩; replace HO_354002 := am (Kd.R_below (rx HO_354002.out) hb); replace HO_358000 := am (Kd.R_below (rx HO_358000.out) hb); replace HO_366002 := am (Kd.R_below (rx HO_366002.out) hb); replace HO369 := am (Kd.R_below (rx HO369.out) hb); replace BK341 := am (bb hb (kx BK341.out)); replace BK353 := am (bb hb (kx BK353.out)); replace BK357 := am (bb hb (kx BK357.out)); replace BK365 := am (bb hb (kx BK365.out)); replace HB := am (below_step (zb4 HB.out GE341.out GE353.out GE357.out GE365.out) hb); (try clear hb); (try clear hb2); (try clear hk); (try clear hi)))
         go_meet
         case rel => exact ⟨_, (true), (by first | rfl | (simp; done) | (simp [*]; done)), H', ⟨by have := HJ10.out; first | omega | exact Nat.le_refl _⟩, ⟨rx HO_354002.out⟩, ⟨rx (Kd.R_mono HO_358000.out (fun _ hk => trivial))⟩, ⟨rx HO_366002.out⟩, ⟨kx BK341.out⟩, ⟨kx BK353.out⟩, ⟨kx BK357.out⟩, ⟨kx BK365.out⟩, ⟨zb4 HB.out GE341.out GE353.out GE357.out GE365.out⟩⟩
      case rest =>
       clear HC60
       try clear c2
       try clear p2
       try clear c3
       try clear c3b0
       try clear c4
       try clear c5
       try clear c6
       try clear c7
       try clear c8
       try clear c20
       try clear c24
       try clear c25
       try clear c26
       try clear c27
       try clear c28
       try clear c29
       try clear c30
       try clear c32
       try clear c33
       try clear c34
       try clear c38
       try clear c39
       try clear c40
       try clear c41
       try clear c43
       try clear c44
       try clear c47
       try clear c48
       try clear c49
       try clear c51
       try clear c52
       try clear c55
       try clear c58
       try clear c65
       try clear c66
       try clear c67
       try clear c70
       try clear c70b0
       try clear c72
       try clear c73
       try clear c74
       try clear c75
       try clear c77
       try clear c78
       try clear c81
       try clear c82
       try clear c83
       try clear c85
       try clear c86
       try clear hcz13_0
       try clear hcz15_0
       try clear hcz21_0
       try clear hcz21_1
       try clear hcz21_2
       try clear hcz21_3
       try clear hcz23_0
       try clear hcz29_0
       try clear hcz35_0
       try clear hcz35_1
       try clear hcz35_2
       try clear hcz35_3
       try clear hcz42_0
       try clear hcz42_1
       try clear hcz42_2
       try clear hcz42_3
       try clear hcz45_0
       try clear hcz45_1
       try clear hcz45_2
       try clear hcz45_3
       try clear hcz50_0
       try clear hcz50_1
       try clear hcz50_2
       try clear hcz50_3
       try clear hcz53_0
       try clear hcz53_1
       try clear hcz53_2
       try clear hcz53_3
       try clear hcz5_0
       try clear hcz68_0
       try clear hcz76_0
       try clear hcz76_1
       try clear hcz76_2
       try clear hcz76_3
       try clear hcz79_0
       try clear hcz79_1
       try clear hcz79_2
       try clear hcz79_3
       try clear hcz84_0
       try clear hcz84_1
       try clear hcz84_2
       try clear hcz84_3
       try clear hcz87_0
       try clear hcz87_1
       try clear hcz87_2
       try clear hcz87_3
       try clear hfz13_0
       try clear hfz15_0
       try clear hfz21_0
       try clear hfz21_1
       try clear hfz21_2
       try clear hfz21_3
       try clear hfz23_0
       try clear hfz29_0
       try clear hfz35_0
       try clear hfz35_1
       try clear hfz35_2
       try clear hfz35_3
       try clear hfz42_0
       try clear hfz42_1
       try clear hfz42_2
       try clear hfz42_3
       try clear hfz45_0
       try clear hfz45_1
       try clear hfz45_2
       try clear hfz45_3
       try clear hfz50_0
       try clear hfz50_1
       try clear hfz50_2
       try clear hfz50_3
       try clear hfz53_0
       try clear hfz53_1
       try clear hfz53_2
       try clear hfz53_3
       try clear hfz5_0
       try clear hfz68_0
       try clear hfz76_0
       try clear hfz76_1
       try clear hfz76_2
       try clear hfz76_3
       try clear hfz79_0
       try clear hfz79_1
       try clear hfz79_2
       try clear hfz79_3
       try clear hfz84_0
       try clear hfz84_1
       try clear hfz84_2
       try clear hfz84_3
       try clear hfz87_0
       try clear hfz87_1
       try clear hfz87_2
       try clear hfz87_3
       try clear p2
       obtain ⟨kq, x61_59, rfl, HA, HJ59, HO_354002, HO_358000, HO_366002, BK341, BK353, BK357, BK365, HB⟩ := hcut
       have hl358000_59 := (Kd.R_reads' HO_358000.out).1
       rw [hl358000_59] at HO_358000
       (try simp only [hl358000_59])
       (try simp only [hl358000_59] at BK341)
       (try simp only [hl358000_59] at BK353)
       (try simp only [hl358000_59] at BK357)
       (try simp only [hl358000_59] at BK365)
       (try simp only [hl358000_59] at HO_354002)
       (try simp only [hl358000_59] at HO_366002)
       cases kq with
       | zero => exact absurd HA.out (by simp [laws_FnExactNewestSnap.j1])
       | succ kj59 =>
        have H := HA.out
        clear HA
        simp only [laws_FnExactNewestSnap.j1] at H
        by_cases c89 : x61_59 = true
        ·subst c89
         have H1 : (some false) = some r := by rw [if_pos rfl] at H; exact H
         clear H
         have H := H1
         clear H1
         exact absurd ((Option.some.inj H).trans HLT.out) (by decide)
        ·replace c89 := Bool.eq_false_iff.mpr c89
         subst c89
         have H1 : ((laws_markSnap.f kj59 t358 t359 t360 t363 1).bind fun bt374 => ((laws_heldSnap.f kj59 t358 t359 bt374.2 t363 1).bind fun t376 => (if t376 < 0 then (some false) else (if t376 = bt374.1 then ((laws_toDisk.f kj59 l0_0).bind fun t377 => ((impl_NewestSnap.f kj59 t377).bind fun bt380 => ((laws_eqSnap.f kj59 bt380.1 bt380.2.1 bt380.2.2.1 bt380.2.2.2.1 t346 t347 t348 t351).bind fun t388 => (if t388 = true then (laws_FnExactNewestSnap.j2 kj59 bt374.1 (bt380.2.2.2.2 != t352) t358 t359 bt374.2 t363) else (laws_FnExactNewestSnap.j2 kj59 bt374.1 true t358 t359 bt374.2 t363))))) else (some false))))) = some r := by rw [if_neg (show ¬ (false = true) by decide)] at H; exact H
         clear H
         have H := H1
         clear H1
         replace H := Option.bind_eq_some_iff.mp H
         obtain ⟨⟨t374, t375⟩, A900, H⟩ := H
         try dsimp only at H
         have A90 := Aside0.mk A900
         clear A900
         replace H := Option.bind_eq_some_iff.mp H
         obtain ⟨t376, A910, H⟩ := H
         try dsimp only at H
         have A91 := Aside0.mk A910
         clear A910
         by_cases c92 : t376 < 0
         ·rw [if_pos c92] at H
          have c92b0 : decide (t376 < 0) = true := decide_eq_true c92
          clear c92
          exact absurd ((Option.some.inj H).trans HLT.out) (by decide)
         ·rw [if_neg c92] at H
          have c92b0 : decide (t376 < 0) = false := decide_eq_false c92
          clear c92
          by_cases c93 : t376 = t374
          ·rw [if_pos c93] at H
           have c93b0 : (t376 == t374) = true := beq_iff_eq.mpr c93
           have c93b1 : (t376 != t374) = false := bne_eq_false_iff_eq.mpr c93
           clear c93
           replace H := Option.bind_eq_some_iff.mp H
           obtain ⟨t377, A940, H⟩ := H
           try dsimp only at H
           have A94 := Aside0.mk A940
           clear A940
           replace H := Option.bind_eq_some_iff.mp H
           obtain ⟨⟨t380, t381, t382, t385, t386⟩, A950, H⟩ := H
           try dsimp only at H
           have A95 := Aside0.mk A950
           clear A950
           have HC96 := Aside0.mk H
           clear H
           have hnb97 := NB365_341.out
           have hnc97 := NB341_365.out
           have hnb98 := NB365_353.out
           have hnc98 := NB353_365.out
           have hnb99 := NB365_357.out
           have hnc99 := NB357_365.out
           obtain ⟨hcz100_0, hcz100_1, hcz100_2, hcz100_3, hfz100_0, hfz100_1, hfz100_2, hfz100_3⟩ := zc4 BK365.out
           go_upto_region 25 with (first | ((with_reducible refine gate_callee (f := 31) rfl ?_); refine goesL_ (some 64) rfl rfl Tryd.func31 (by kernel_rfl) rfl #[.agg #[.int .i64 t358, .int .i64 t359, .slice Ao36 t360.length co36, .string t363], .int .i64 1] rfl zr ?_; (with_reducible refine (laws_markSnap.calls kj59 t358 t359 (fun k_ => some k_ = (.slice Ao36 t360.length co36 : Value).ownBlock) (.slice Ao36 t360.length co36) t360 t363 1 t374 t375 w _ ?side1 ?side2 A90.out).mono ?_); (case side1 => repeat (first | (with_reducible first | exact HB.out | apply below_alloc | apply pw_below_drewN | apply below_drew1 | refine below_set ?_ GE341.out | refine below_set ?_ GE353.out | refine below_set ?_ GE357.out | refine below_set ?_ GE365.out) | exact HB.out)); (case side2 => exact Kd.R_tight rfl HO_366002.out); rintro e w101 ⟨rfl, hy0, hb, hkp⟩; refine ⟨_, rfl, ?_⟩; replace HO_354002 := am (Kd.R_mono (ok' := fun k_ => some k_ ≠ (.slice Ao36 t360.length co36 : Value).ownBlock) (Kd.R_keptB (HO_354002.out) hkp (fun k_ hk_ hs_ => (hk_) hs_)) (fun k_ hk_ => hk_.1)); replace HO_358000 := am (Kd.R_mono (ok' := fun k_ => True) (Kd.R_keptB ((Kd.R_apart' HO_358000.out (Kd.R_typed HO_366002.out) (by decide))) hkp (fun k_ hk_ hs_ => (hk_.2) hs_)) (fun k_ hk_ => trivial)); replace BK341 := am (blk_kept (g := gb341) (kx BK341.out) hkp (fun hs_ => (fun e_ => (Kd.R_ne HO_366002.out BK341.out (by decide)) e_) hs_)); replace BK353 := am (blk_kept (g := gb353) (kx BK353.out) hkp (fun hs_ => (fun e_ => (Kd.R_ne HO_366002.out BK353.out (by decide)) e_) hs_)); replace BK357 := am (blk_kept (g := gb357) (kx BK357.out) hkp (fun hs_ => (fun e_ => (Kd.R_ne HO_366002.out BK357.out (by decide)) e_) hs_)); replace BK365 := am (blk_kept (g := gb365) (kx BK365.out) hkp (fun hs_ => (fun e_ => (Kd.R_ne HO_366002.out BK365.out (by decide)) e_) hs_)); replace HO_366002 := am (Kd.R_reok rfl hy0 (fun k_ e_ => HO_366002.out.1 k_ e_)); replace HB := am (hb); (try clear hb); (try clear hkp); (try clear hy0); obtain ⟨hcz102_0, hcz102_1, hcz102_2, hcz102_3, hfz102_0, hfz102_1, hfz102_2, hfz102_3⟩ := zc4 BK365.out) | ((with_reducible refine gate_callee (f := 32) rfl ?_); refine goesL_ (some 67) rfl rfl Tryd.func32 (by kernel_rfl) rfl #[.agg #[.int .i64 t358, .int .i64 t359, .slice Ao36 t375.length co36, .string t363], .int .i64 1] rfl (by (try simp only [List.map_toArray, List.map_cons, List.map_nil]); first | done | (rw [show t375.length = t360.length from (Kd.R_reads' HO_366002.out).1.symm] <;> rfl) | rfl | (simp only [List.length_drop, List.length_take]; rfl)) ?_; (with_reducible refine (laws_heldSnap.calls kj59 t358 t359 _ _ t375 t363 1 t376 _ ?side1 ?side2 A91.out).mono ?_); (case side1 => repeat (first | exact (Kd.R_reads' HO_366002.out).2.2 | (with_reducible refine Kd.C_alloc ?_ _) | (with_reducible refine Kd.C_drewN ?_ _) | (with_reducible refine Kd.C_drew ?_))); (case side2 => rw [show t375.length = t360.length from (Kd.R_reads' HO_366002.out).1.symm]; exact (Kd.R_reads' HO_366002.out).2.1); rintro e w103 ⟨rfl, hb⟩; refine ⟨_, rfl, ?_⟩; replace HO_354002 := am (Kd.R_below (rx HO_354002.out) hb); replace HO_358000 := am (Kd.R_below (rx HO_358000.out) hb); replace HO_366002 := am (Kd.R_below (rx HO_366002.out) hb); replace BK341 := am (bb hb (kx BK341.out)); replace BK353 := am (bb hb (kx BK353.out)); replace BK357 := am (bb hb (kx BK357.out)); replace BK365 := am (bb hb (kx BK365.out)); replace HB := am (below_step (zb4 HB.out GE341.out GE353.out GE357.out GE365.out) hb); (try clear hb); (try clear hb2); (try clear hk); (try clear hi); have hnb104 := NB341_353.out; have hnc104 := NB353_341.out; have hnb105 := NB341_357.out; have hnc105 := NB357_341.out; obtain ⟨hcz106_0, hfz106_0⟩ := zc1 BK341.out) | ((with_reducible refine gate_callee (f := 26) rfl ?_); refine goesL_ (some 75) rfl rfl Tryd.func26 (by kernel_rfl) rfl #[.agg #[.slice A0_0 l0_0.length c0_0]] rfl zr ?_; (with_reducible refine (laws_toDisk.calls kj59 _ _ l0_0 t377 _ ?side1 ?side2 A94.out).mono ?_); (case side1 => repeat (first | exact (Kd.C_below HR0_0.out HB.out) | (with_reducible refine Kd.C_alloc ?_ _) | (with_reducible refine Kd.C_drewN ?_ _) | (with_reducible refine Kd.C_drew ?_))); (case side2 => exact HC0_0.out); rintro e w107 ⟨v378, rfl, ho0, hb⟩; refine ⟨_, rfl, ?_⟩; have HO379 := am (Kd.R_lower (Kd.R_new' ho0 (Kd.R_lt (rx HO_358000.out))) (below_size (zb4 HB.out GE341.out GE353.out GE357.out GE365.out))); replace HO_354002 := am (Kd.R_below (rx HO_354002.out) hb); replace HO_358000 := am (Kd.R_elder' (rx HO_358000.out) (Kd.R_base ho0) hb); replace HO_366002 := am (Kd.R_below (rx HO_366002.out) hb); replace BK341 := am (bb hb (kx BK341.out)); replace BK353 := am (bb hb (kx BK353.out)); replace BK357 := am (bb hb (kx BK357.out)); replace BK365 := am (bb hb (kx BK365.out)); replace HB := am (below_step (zb4 HB.out GE341.out GE353.out GE357.out GE365.out) hb); (try clear hb); (try clear hb2); (try clear hk); (try clear hi); (try clear ho0); obtain ⟨Ao108, co108, eo108⟩ := Kd.R_slice HO379.out; subst eo108) | ((with_reducible refine gate_callee (f := 27) rfl ?_); refine goesL_ (some 76) rfl rfl Tryd.func27 (by kernel_rfl) rfl #[.agg #[.slice Ao108 t377.length co108]] rfl zr ?_; (with_reducible refine (impl_NewestSnap.calls kj59 _ _ t377 t380 t381 t382 t385 t386 _ ?side1 ?side2 A95.out ?laid).mono ?_); (case laid => exact LaidW.later HLW.out (zb4 HB.out GE341.out GE353.out GE357.out GE365.out)); (case side1 => repeat (first | exact (Kd.R_reads' HO379.out).2.2 | (with_reducible refine Kd.C_alloc ?_ _) | (with_reducible refine Kd.C_drewN ?_ _) | (with_reducible refine Kd.C_drew ?_))); (case side2 => exact (Kd.R_reads' HO379.out).2.1); rintro e w109 ⟨v383, rfl, ho0, hb⟩; refine ⟨_, rfl, ?_⟩; have HO384 := am (Kd.R_lower (Kd.R_new' (Kd.R_new' ho0 (Kd.R_lt (rx HO_354002.out))) (Kd.R_lt (rx HO_366002.out))) (below_size (zb4 HB.out GE341.out GE353.out GE357.out GE365.out))); replace HO_354002 := am (Kd.R_elder' (rx HO_354002.out) (Kd.R_base ho0) hb); replace HO_358000 := am (Kd.R_below (rx HO_358000.out) hb); replace HO_366002 := am (Kd.R_elder' (rx HO_366002.out) (Kd.R_base ho0) hb); replace HO379 := am (Kd.R_below (rx HO379.out) hb); replace BK341 := am (bb hb (kx BK341.out)); replace BK353 := am (bb hb (kx BK353.out)); replace BK357 := am (bb hb (kx BK357.out)); replace BK365 := am (bb hb (kx BK365.out)); replace HB := am (below_step (zb4 HB.out GE341.out GE353.out GE357.out GE365.out) hb); (try clear hb); (try clear hb2); (try clear hk); (try clear hi); (try clear ho0)) | ((with_reducible refine gate_dst (N := 12) rfl ?_); refine box_event ?hg (N := 12) ?hd (cs := #[.int .i64 0, .int .i64 0, .slice none 0 0, .string (⟨#[]⟩ : ByteArray)]) (t := 48) ?hr ?_; (case hd => rfl); (case hg => rfl); (case hr => first | (go_simp; done) | (go_simp; rfl)); intro gb387 hg w110 hbox hb; have BK387 := am (hbox); have GW387 := zge hg (zb4 HB.out GE341.out GE353.out GE357.out GE365.out); have GE387 := zge hg (zb4 HB.out GE341.out GE353.out GE357.out GE365.out); have NB341_387 := znl hg (kx BK341.out); have NB387_341 := zng hg (kx BK341.out); have NB353_387 := znl hg (kx BK353.out); have NB387_353 := zng hg (kx BK353.out); have NB357_387 := znl hg (kx BK357.out); have NB387_357 := zng hg (kx BK357.out); have NB365_387 := znl hg (kx BK365.out); have NB387_365 := zng hg (kx BK365.out); replace HO_354002 := am (Kd.R_below (rx HO_354002.out) hb); replace HO_358000 := am (Kd.R_below (rx HO_358000.out) hb); replace HO_366002 := am (Kd.R_below (rx HO_366002.out) hb); replace HO379 := am (Kd.R_below (rx HO379.out) hb); replace HO384 := am (Kd.R_below (rx HO384.out) hb); replace BK341 := am (bb hb (kx BK341.out)); replace BK353 := am (bb hb (kx BK353.out)); replace BK357 := am (bb hb (kx BK357.out)); replace BK365 := am (bb hb (kx BK365.out)); replace HB := am (below_step (zb4 HB.out GE341.out GE353.out GE357.out GE365.out) hb); clear hb hbox hg; have hnb111 := NB387_341.out; have hnc111 := NB341_387.out; have hnb112 := NB387_353.out; have hnc112 := NB353_387.out; have hnb113 := NB387_357.out; have hnc113 := NB357_387.out; have hnb114 := NB387_365.out; have hnc114 := NB365_387.out; obtain ⟨hcz115_0, hcz115_1, hcz115_2, hcz115_3, hfz115_0, hfz115_1, hfz115_2, hfz115_3⟩ := zc4 BK387.out; obtain ⟨Ao116, co116, eo116⟩ := Kd.R_slice HO384.out; subst eo116))
           (try simp only [Act.put, List.setIfInBounds_toArray, List.set_cons_zero, List.set_cons_succ])
           go_cut [87] (fun v87 wc => ∃ (kq : Nat) (x87_95 : Bool), v87 = .bool x87_95 ∧ Aside0 (laws_FnExactNewestSnap.j2 kq t374 x87_95 t358 t359 t375 t363 = some r) ∧ Aside0 (kq ≤ kj59) ∧ Aside0 (Kd.R (Kd.int .i64) 3 wc w.heap.size (fun k_ => some k_ ≠ ((.slice Ao36 t360.length co36) : Value).ownBlock ∧ some k_ ≠ ((.slice Ao116 t382.length co116) : Value).ownBlock) (.slice Ao22 t348.length co22) t348) ∧ Aside0 (Kd.R k78 78 wc w.heap.size (fun _ => True) (.slice Ao26 t372.length co26) t372) ∧ Aside0 (Kd.R (Kd.int .i64) 3 wc w.heap.size (fun k_ => some k_ ≠ ((.slice Ao22 t348.length co22) : Value).ownBlock ∧ some k_ ≠ ((.slice Ao116 t382.length co116) : Value).ownBlock) (.slice Ao36 t360.length co36) t375) ∧ Aside0 (Kd.R (Kd.int .i64) 3 wc w.heap.size (fun k_ => some k_ ≠ ((.slice Ao22 t348.length co22) : Value).ownBlock ∧ some k_ ≠ ((.slice Ao36 t360.length co36) : Value).ownBlock) (.slice Ao116 t382.length co116) t382) ∧ Aside0 (wc.heap[gb341]? = some (.cells #[(.slice A0_0 l0_0.length c0_0)] 44 (0, 0))) ∧ Aside0 (wc.heap[gb353]? = some (.cells #[.int .i64 t346, .int .i64 t347, (.slice Ao22 t348.length co22), .string t351] 48 (0, 0))) ∧ Aside0 (wc.heap[gb357]? = some (.cells #[(.slice Ao26 t372.length co26)] 53 (0, 0))) ∧ Aside0 (wc.heap[gb365]? = some (.cells #[.int .i64 t358, .int .i64 t359, (.slice Ao36 t360.length co36), .string t363] 48 (0, 0))) ∧ Aside0 (wc.heap[gb387]? = some (.cells #[.int .i64 t380, .int .i64 t381, (.slice Ao116 t382.length co116), .string t385] 48 (0, 0))) ∧ Aside0 (Below w.heap.size w wc))
           case first =>
            have H := HC96.out
            clear HC96
            replace H := Option.bind_eq_some_iff.mp H
            obtain ⟨t388, A1170, H⟩ := H
            try dsimp only at H
            have A117 := Aside0.mk A1170
            clear A1170
            by_cases c118 : t388 = true
            ·subst c118
             have H1 : (laws_FnExactNewestSnap.j2 kj59 t374 (t386 != t352) t358 t359 t375 t363) = some r := by rw [if_pos rfl] at H; exact H
             clear H
             have H := H1
             clear H1
             have H' := Aside0.mk H
             clear H
             have hnb119 := NB387_341.out
             have hnc119 := NB341_387.out
             have hnb120 := NB387_353.out
             have hnc120 := NB353_387.out
             have hnb121 := NB387_357.out
             have hnc121 := NB357_387.out
             have hnb122 := NB387_365.out
             have hnc122 := NB365_387.out
             obtain ⟨hcz123_0, hcz123_1, hcz123_2, hcz123_3, hfz123_0, hfz123_1, hfz123_2, hfz123_3⟩ := zc4 BK387.out
             have hnb124 := NB353_341.out
             have hnc124 := NB341_353.out
             have hnb125 := NB353_357.out
             have hnc125 := NB357_353.out
             have hnb126 := NB353_365.out
             have hnc126 := NB365_353.out
             obtain ⟨hcz127_0, hcz127_1, hcz127_2, hcz127_3, hfz127_0, hfz127_1, hfz127_2, hfz127_3⟩ := zc4 BK353.out
             go_wp2_with (first | ((with_reducible refine gate_callee (f := 28) rfl ?_); refine goesL_ (some 81) rfl rfl Tryd.func28 (by kernel_rfl) rfl #[.agg #[.int .i64 t380, .int .i64 t381, .slice Ao116 t382.length co116, .string t385], .agg #[.int .i64 t346, .int .i64 t347, .slice Ao22 t348.length co22, .string t351]] rfl zr ?_; (with_reducible refine (laws_eqSnap.calls kj59 t380 t381 _ _ t382 t385 t346 t347 _ _ t348 t351 true _ ?side1 ?side2 ?side3 ?side4 A117.out).mono ?_); (case side1 => refine (Kd.R_reads' (e := 3) (base := w.heap.size) (ok := fun k_ => ((True ∧ some k_ ≠ (.slice Ao22 t348.length co22 : Value).ownBlock) ∧ some k_ ≠ (.slice Ao36 t360.length co36 : Value).ownBlock)) (n := t382.length) (c := co116) ?_).2.2; exact (rx ((Kd.R_mono (Kd.R_far (p := ⟨gb387, 3, none⟩) (Kd.R_far (p := ⟨gb387, 2, none⟩) (Kd.R_far (p := ⟨gb387, 1, none⟩) (Kd.R_far (p := ⟨gb387, 0, none⟩) (Kd.R_types HO384.out BK387.out (by decide)) (fun _ hk => hk.2) (.int .i64 t380)) (fun _ hk => hk.2) (.int .i64 t381)) (fun _ hk => hk.2) (.slice Ao116 t382.length co116)) (fun _ hk => hk.2) (.string t385)) (fun _ h_ => h_.1))))); (case side2 => exact (Kd.R_reads' HO384.out).2.1); (case side3 => refine (Kd.R_reads' (e := 3) (base := w.heap.size) (ok := fun k_ => (some k_ ≠ (.slice Ao36 t360.length co36 : Value).ownBlock ∧ some k_ ≠ (.slice Ao116 t382.length co116 : Value).ownBlock)) (n := t348.length) (c := co22) ?_).2.2; exact (rx ((Kd.R_mono (Kd.R_far (p := ⟨gb387, 3, none⟩) (Kd.R_far (p := ⟨gb387, 2, none⟩) (Kd.R_far (p := ⟨gb387, 1, none⟩) (Kd.R_far (p := ⟨gb387, 0, none⟩) (Kd.R_types HO_354002.out BK387.out (by decide)) (fun _ hk => hk.2) (.int .i64 t380)) (fun _ hk => hk.2) (.int .i64 t381)) (fun _ hk => hk.2) (.slice Ao116 t382.length co116)) (fun _ hk => hk.2) (.string t385)) (fun _ h_ => h_.1))))); (case side4 => exact (Kd.R_reads' HO_354002.out).2.1); rintro e w128 ⟨rfl, hb⟩; refine ⟨_, rfl, ?_⟩; replace HO_354002 := am (Kd.R_below (rx ((Kd.R_mono (Kd.R_far (p := ⟨gb387, 3, none⟩) (Kd.R_far (p := ⟨gb387, 2, none⟩) (Kd.R_far (p := ⟨gb387, 1, none⟩) (Kd.R_far (p := ⟨gb387, 0, none⟩) (Kd.R_types HO_354002.out BK387.out (by decide)) (fun _ hk => hk.2) (.int .i64 t380)) (fun _ hk => hk.2) (.int .i64 t381)) (fun _ hk => hk.2) (.slice Ao116 t382.length co116)) (fun _ hk => hk.2) (.string t385)) (fun _ h_ => h_.1)))) hb); replace HO_358000 := am (Kd.R_below (rx ((Kd.R_mono (Kd.R_far (p := ⟨gb387, 3, none⟩) (Kd.R_far (p := ⟨gb387, 2, none⟩) (Kd.R_far (p := ⟨gb387, 1, none⟩) (Kd.R_far (p := ⟨gb387, 0, none⟩) (Kd.R_types HO_358000.out BK387.out (by decide)) (fun _ hk => hk.2) (.int .i64 t380)) (fun _ hk => hk.2) (.int .i64 t381)) (fun _ hk => hk.2) (.slice Ao116 t382.length co116)) (fun _ hk => hk.2) (.string t385)) (fun _ h_ => h_.1)))) hb); replace HO_366002 := am (Kd.R_below (rx ((Kd.R_mono (Kd.R_far (p := ⟨gb387, 3, none⟩) (Kd.R_far (p := ⟨gb387, 2, none⟩) (Kd.R_far (p := ⟨gb387, 1, none⟩) (Kd.R_far (p := ⟨gb387, 0, none⟩) (Kd.R_types HO_366002.out BK387.out (by decide)) (fun _ hk => hk.2) (.int .i64 t380)) (fun _ hk => hk.2) (.int .i64 t381)) (fun _ hk => hk.2) (.slice Ao116 t382.length co116)) (fun _ hk => hk.2) (.string t385)) (fun _ h_ => h_.1)))) hb); replace HO379 := am (Kd.R_below (rx ((Kd.R_mono (Kd.R_far (p := ⟨gb387, 3, none⟩) (Kd.R_far (p := ⟨gb387, 2, none⟩) (Kd.R_far (p := ⟨gb387, 1, none⟩) (Kd.R_far (p := ⟨gb387, 0, none⟩) (Kd.R_types HO379.out BK387.out (by decide)) (fun _ hk => hk.2) (.int .i64 t380)) (fun _ hk => hk.2) (.int .i64 t381)) (fun _ hk => hk.2) (.slice Ao116 t382.length co116)) (fun _ hk => hk.2) (.string t385)) (fun _ h_ => h_.1)))) hb); replace HO384 := am (Kd.R_below (rx ((Kd.R_mono (Kd.R_far (p := ⟨gb387, 3, none⟩) (Kd.R_far (p := ⟨gb387, 2, none⟩) (Kd.R_far (p := ⟨gb387, 1, none⟩) (Kd.R_far (p := ⟨gb387, 0, none⟩) (Kd.R_types HO384.out BK387.out (by decide)) (fun _ hk => hk.2) (.int .i64 t380)) (fun _ hk => hk.2) (.int .i64 t381)) (fun _ hk => hk.2) (.slice Ao116 t382.length co116)) (fun _ hk => hk.2) (.string t385)) (fun _ h_ => h_.1)))) hb); replace BK341 := am (bb hb (zf1 BK341.out NB341_387.out)); replace BK353 := am (bb hb (zf1 BK353.out NB353_387.out)); replace BK357 := am (bb hb (zf1 BK357.out NB357_387.out)); replace BK365 := am (bb hb (zf1 BK365.out NB365_387.out)); replace BK387 := am (blk_below (g := gb387) (o := .cells #[.int .i64 t380, .int .i64 t381, .slice Ao116 t382.length co116, .string t385] 48 (0, 0)) (by (with_reducible repeat (first | refine blk_drewN ?_ _ | refine blk_drew ?_ | refine blk_alloc ?_ _)); refine blk_put (cs := #[.int .i64 t380, .int .i64 t381, .slice Ao116 t382.length co116, .string (⟨#[]⟩ : ByteArray)]) ?_ 3 _ rfl; (with_reducible repeat (first | refine blk_drewN ?_ _ | refine blk_drew ?_ | refine blk_alloc ?_ _)); refine blk_put (cs := #[.int .i64 t380, .int .i64 t381, .slice none 0 0, .string (⟨#[]⟩ : ByteArray)]) ?_ 2 _ rfl; (with_reducible repeat (first | refine blk_drewN ?_ _ | refine blk_drew ?_ | refine blk_alloc ?_ _)); refine blk_put (cs := #[.int .i64 t380, .int .i64 0, .slice none 0 0, .string (⟨#[]⟩ : ByteArray)]) ?_ 1 _ rfl; (with_reducible repeat (first | refine blk_drewN ?_ _ | refine blk_drew ?_ | refine blk_alloc ?_ _)); refine blk_put (cs := #[.int .i64 0, .int .i64 0, .slice none 0 0, .string (⟨#[]⟩ : ByteArray)]) ?_ 0 _ rfl; (with_reducible repeat (first | refine blk_drewN ?_ _ | refine blk_drew ?_ | refine blk_alloc ?_ _)); exact BK387.out) hb); replace HB := am (below_step (zb5 HB.out GE341.out GE353.out GE357.out GE365.out GE387.out) hb); (try clear hb); (try clear hb2); (try clear hk); (try clear hi)))
             go_meet
             case rel => exact ⟨_, ((t386 != t352)), (by first | rfl | (simp; done) | (simp [*]; done)), H', ⟨by have := HJ10.out; have := HJ59.out; first | omega | exact Nat.le_refl _⟩, ⟨by (try simp only [hl358000_59]); (with_reducible repeat (first | apply Kd.R_alloc | apply Kd.R_drewN | apply Kd.R_drew)); exact HO_354002.out⟩, ⟨by (try simp only [hl358000_59]); (with_reducible repeat (first | apply Kd.R_alloc | apply Kd.R_drewN | apply Kd.R_drew)); exact Kd.R_mono HO_358000.out (fun _ hk => trivial)⟩, ⟨by (try simp only [hl358000_59]); (with_reducible repeat (first | apply Kd.R_alloc | apply Kd.R_drewN | apply Kd.R_drew)); exact HO_366002.out⟩, ⟨by (try simp only [hl358000_59]); (with_reducible repeat (first | apply Kd.R_alloc | apply Kd.R_drewN | apply Kd.R_drew)); exact Kd.R_mono HO384.out (fun _ hk => ⟨hk.1.2, hk.2⟩)⟩, ⟨by (try simp only [hl358000_59]); (with_reducible repeat (first | refine blk_drewN ?_ _ | refine blk_drew ?_ | refine blk_alloc ?_ _)); exact BK341.out⟩, ⟨by (try simp only [hl358000_59]); (with_reducible repeat (first | refine blk_drewN ?_ _ | refine blk_drew ?_ | refine blk_alloc ?_ _)); exact BK353.out⟩, ⟨by (try simp only [hl358000_59]); (with_reducible repeat (first | refine blk_drewN ?_ _ | refine blk_drew ?_ | refine blk_alloc ?_ _)); exact BK357.out⟩, ⟨by (try simp only [hl358000_59]); (with_reducible repeat (first | refine blk_drewN ?_ _ | refine blk_drew ?_ | refine blk_alloc ?_ _)); exact BK365.out⟩, ⟨by (try simp only [hl358000_59]); (with_reducible repeat (first | refine blk_drewN ?_ _ | refine blk_drew ?_ | refine blk_alloc ?_ _)); exact BK387.out⟩, ⟨zb5 HB.out GE341.out GE353.out GE357.out GE365.out GE387.out⟩⟩
            ·replace c118 := Bool.eq_false_iff.mpr c118
             subst c118
             have H1 : (laws_FnExactNewestSnap.j2 kj59 t374 true t358 t359 t375 t363) = some r := by rw [if_neg (show ¬ (false = true) by decide)] at H; exact H
             clear H
             have H := H1
             clear H1
             have H' := Aside0.mk H
             clear H
             have hnb129 := NB387_341.out
             have hnc129 := NB341_387.out
             have hnb130 := NB387_353.out
             have hnc130 := NB353_387.out
             have hnb131 := NB387_357.out
             have hnc131 := NB357_387.out
             have hnb132 := NB387_365.out
             have hnc132 := NB365_387.out
             obtain ⟨hcz133_0, hcz133_1, hcz133_2, hcz133_3, hfz133_0, hfz133_1, hfz133_2, hfz133_3⟩ := zc4 BK387.out
             have hnb134 := NB353_341.out
             have hnc134 := NB341_353.out
             have hnb135 := NB353_357.out
             have hnc135 := NB357_353.out
             have hnb136 := NB353_365.out
             have hnc136 := NB365_353.out
             obtain ⟨hcz137_0, hcz137_1, hcz137_2, hcz137_3, hfz137_0, hfz137_1, hfz137_2, hfz137_3⟩ := zc4 BK353.out
             go_wp2_with (first | ((with_reducible refine gate_callee (f := 28) rfl ?_); refine goesL_ (some 81) rfl rfl Tryd.func28 (by kernel_rfl) rfl #[.agg #[.int .i64 t380, .int .i64 t381, .slice Ao116 t382.length co116, .string t385], .agg #[.int .i64 t346, .int .i64 t347, .slice Ao22 t348.length co22, .string t351]] rfl zr ?_; (with_reducible refine (laws_eqSnap.calls kj59 t380 t381 _ _ t382 t385 t346 t347 _ _ t348 t351 false _ ?side1 ?side2 ?side3 ?side4 A117.out).mono ?_); (case side1 => refine (Kd.R_reads' (e := 3) (base := w.heap.size) (ok := fun k_ => ((True ∧ some k_ ≠ (.slice Ao22 t348.length co22 : Value).ownBlock) ∧ some k_ ≠ (.slice Ao36 t360.length co36 : Value).ownBlock)) (n := t382.length) (c := co116) ?_).2.2; exact (rx ((Kd.R_mono (Kd.R_far (p := ⟨gb387, 3, none⟩) (Kd.R_far (p := ⟨gb387, 2, none⟩) (Kd.R_far (p := ⟨gb387, 1, none⟩) (Kd.R_far (p := ⟨gb387, 0, none⟩) (Kd.R_types HO384.out BK387.out (by decide)) (fun _ hk => hk.2) (.int .i64 t380)) (fun _ hk => hk.2) (.int .i64 t381)) (fun _ hk => hk.2) (.slice Ao116 t382.length co116)) (fun _ hk => hk.2) (.string t385)) (fun _ h_ => h_.1))))); (case side2 => exact (Kd.R_reads' HO384.out).2.1); (case side3 => refine (Kd.R_reads' (e := 3) (base := w.heap.size) (ok := fun k_ => (some k_ ≠ (.slice Ao36 t360.length co36 : Value).ownBlock ∧ some k_ ≠ (.slice Ao116 t382.length co116 : Value).ownBlock)) (n := t348.length) (c := co22) ?_).2.2; exact (rx ((Kd.R_mono (Kd.R_far (p := ⟨gb387, 3, none⟩) (Kd.R_far (p := ⟨gb387, 2, none⟩) (Kd.R_far (p := ⟨gb387, 1, none⟩) (Kd.R_far (p := ⟨gb387, 0, none⟩) (Kd.R_types HO_354002.out BK387.out (by decide)) (fun _ hk => hk.2) (.int .i64 t380)) (fun _ hk => hk.2) (.int .i64 t381)) (fun _ hk => hk.2) (.slice Ao116 t382.length co116)) (fun _ hk => hk.2) (.string t385)) (fun _ h_ => h_.1))))); (case side4 => exact (Kd.R_reads' HO_354002.out).2.1); rintro e w138 ⟨rfl, hb⟩; refine ⟨_, rfl, ?_⟩; replace HO_354002 := am (Kd.R_below (rx ((Kd.R_mono (Kd.R_far (p := ⟨gb387, 3, none⟩) (Kd.R_far (p := ⟨gb387, 2, none⟩) (Kd.R_far (p := ⟨gb387, 1, none⟩) (Kd.R_far (p := ⟨gb387, 0, none⟩) (Kd.R_types HO_354002.out BK387.out (by decide)) (fun _ hk => hk.2) (.int .i64 t380)) (fun _ hk => hk.2) (.int .i64 t381)) (fun _ hk => hk.2) (.slice Ao116 t382.length co116)) (fun _ hk => hk.2) (.string t385)) (fun _ h_ => h_.1)))) hb); replace HO_358000 := am (Kd.R_below (rx ((Kd.R_mono (Kd.R_far (p := ⟨gb387, 3, none⟩) (Kd.R_far (p := ⟨gb387, 2, none⟩) (Kd.R_far (p := ⟨gb387, 1, none⟩) (Kd.R_far (p := ⟨gb387, 0, none⟩) (Kd.R_types HO_358000.out BK387.out (by decide)) (fun _ hk => hk.2) (.int .i64 t380)) (fun _ hk => hk.2) (.int .i64 t381)) (fun _ hk => hk.2) (.slice Ao116 t382.length co116)) (fun _ hk => hk.2) (.string t385)) (fun _ h_ => h_.1)))) hb); replace HO_366002 := am (Kd.R_below (rx ((Kd.R_mono (Kd.R_far (p := ⟨gb387, 3, none⟩) (Kd.R_far (p := ⟨gb387, 2, none⟩) (Kd.R_far (p := ⟨gb387, 1, none⟩) (Kd.R_far (p := ⟨gb387, 0, none⟩) (Kd.R_types HO_366002.out BK387.out (by decide)) (fun _ hk => hk.2) (.int .i64 t380)) (fun _ hk => hk.2) (.int .i64 t381)) (fun _ hk => hk.2) (.slice Ao116 t382.length co116)) (fun _ hk => hk.2) (.string t385)) (fun _ h_ => h_.1)))) hb); replace HO379 := am (Kd.R_below (rx ((Kd.R_mono (Kd.R_far (p := ⟨gb387, 3, none⟩) (Kd.R_far (p := ⟨gb387, 2, none⟩) (Kd.R_far (p := ⟨gb387, 1, none⟩) (Kd.R_far (p := ⟨gb387, 0, none⟩) (Kd.R_types HO379.out BK387.out (by decide)) (fun _ hk => hk.2) (.int .i64 t380)) (fun _ hk => hk.2) (.int .i64 t381)) (fun _ hk => hk.2) (.slice Ao116 t382.length co116)) (fun _ hk => hk.2) (.string t385)) (fun _ h_ => h_.1)))) hb); replace HO384 := am (Kd.R_below (rx ((Kd.R_mono (Kd.R_far (p := ⟨gb387, 3, none⟩) (Kd.R_far (p := ⟨gb387, 2, none⟩) (Kd.R_far (p := ⟨gb387, 1, none⟩) (Kd.R_far (p := ⟨gb387, 0, none⟩) (Kd.R_types HO384.out BK387.out (by decide)) (fun _ hk => hk.2) (.int .i64 t380)) (fun _ hk => hk.2) (.int .i64 t381)) (fun _ hk => hk.2) (.slice Ao116 t382.length co116)) (fun _ hk => hk.2) (.string t385)) (fun _ h_ => h_.1)))) hb); replace BK341 := am (bb hb (zf1 BK341.out NB341_387.out)); replace BK353 := am (bb hb (zf1 BK353.out NB353_387.out)); replace BK357 := am (bb hb (zf1 BK357.out NB357_387.out)); replace BK365 := am (bb hb (zf1 BK365.out NB365_387.out)); replace BK387 := am (blk_below (g := gb387) (o := .cells #[.int .i64 t380, .int .i64 t381, .slice Ao116 t382.length co116, .string t385] 48 (0, 0)) (by (with_reducible repeat (first | refine blk_drewN ?_ _ | refine blk_drew ?_ | refine blk_alloc ?_ _)); refine blk_put (cs := #[.int .i64 t380, .int .i64 t381, .slice Ao116 t382.length co116, .string (⟨#[]⟩ : ByteArray)]) ?_ 3 _ rfl; (with_reducible repeat (first | refine blk_drewN ?_ _ | refine blk_drew ?_ | refine blk_alloc ?_ _)); refine blk_put (cs := #[.int .i64 t380, .int .i64 t381, .slice none 0 0, .string (⟨#[]⟩ : ByteArray)]) ?_ 2 _ rfl; (with_reducible repeat (first | refine blk_drewN ?_ _ | refine blk_drew ?_ | refine blk_alloc ?_ _)); refine blk_put (cs := #[.int .i64 t380, .int .i64 0, .slice none 0 0, .string (⟨#[]⟩ : ByteArray)]) ?_ 1 _ rfl; (with_reducible repeat (first | refine blk_drewN ?_ _ | refine blk_drew ?_ | refine blk_alloc ?_ _)); refine blk_put (cs := #[.int .i64 0, .int .i64 0, .slice none 0 0, .string (⟨#[]⟩ : ByteArray)]) ?_ 0 _ rfl; (with_reducible repeat (first | refine blk_drewN ?_ _ | refine blk_drew ?_ | refine blk_alloc ?_ _)); exact BK387.out) hb); replace HB := am (below_step (zb5 HB.out GE341.out GE353.out GE357.out GE365.out GE387.out) hb); (try clear hb); (try clear hb2); (try clear hk); (try clear hi)))
             go_meet
             case rel => exact ⟨_, (true), (by first | rfl | (simp; done) | (simp [*]; done)), H', ⟨by have := HJ10.out; have := HJ59.out; first | omega | exact Nat.le_refl _⟩, ⟨by (try simp only [hl358000_59]); (with_reducible repeat (first | apply Kd.R_alloc | apply Kd.R_drewN | apply Kd.R_drew)); exact HO_354002.out⟩, ⟨by (try simp only [hl358000_59]); (with_reducible repeat (first | apply Kd.R_alloc | apply Kd.R_drewN | apply Kd.R_drew)); exact Kd.R_mono HO_358000.out (fun _ hk => trivial)⟩, ⟨by (try simp only [hl358000_59]); (with_reducible repeat (first | apply Kd.R_alloc | apply Kd.R_drewN | apply Kd.R_drew)); exact HO_366002.out⟩, ⟨by (try simp only [hl358000_59]); (with_reducible repeat (first | apply Kd.R_alloc | apply Kd.R_drewN | apply Kd.R_drew)); exact Kd.R_mono HO384.out (fun _ hk => ⟨hk.1.2, hk.2⟩)⟩, ⟨by (try simp only [hl358000_59]); (with_reducible repeat (first | refine blk_drewN ?_ _ | refine blk_drew ?_ | refine blk_alloc ?_ _)); exact BK341.out⟩, ⟨by (try simp only [hl358000_59]); (with_reducible repeat (first | refine blk_drewN ?_ _ | refine blk_drew ?_ | refine blk_alloc ?_ _)); exact BK353.out⟩, ⟨by (try simp only [hl358000_59]); (with_reducible repeat (first | refine blk_drewN ?_ _ | refine blk_drew ?_ | refine blk_alloc ?_ _)); exact BK357.out⟩, ⟨by (try simp only [hl358000_59]); (with_reducible repeat (first | refine blk_drewN ?_ _ | refine blk_drew ?_ | refine blk_alloc ?_ _)); exact BK365.out⟩, ⟨by (try simp only [hl358000_59]); (with_reducible repeat (first | refine blk_drewN ?_ _ | refine blk_drew ?_ | refine blk_alloc ?_ _)); exact BK387.out⟩, ⟨zb5 HB.out GE341.out GE353.out GE357.out GE365.out GE387.out⟩⟩
           case rest =>
            clear HC96
            try clear c1
            try clear c2
            try clear p2
            try clear c3
            try clear c3b0
            try clear c4
            try clear c5
            try clear c6
            try clear c7
            try clear c8
            try clear c9
            try clear c10
            try clear c11
            try clear c12
            try clear c13
            try clear c20
            try clear c24
            try clear c25
            try clear c26
            try clear c27
            try clear c28
            try clear c29
            try clear c30
            try clear c31
            try clear c32
            try clear c33
            try clear c34
            try clear c38
            try clear c39
            try clear c40
            try clear c41
            try clear c43
            try clear c44
            try clear c47
            try clear c48
            try clear c49
            try clear c51
            try clear c52
            try clear c55
            try clear c58
            try clear c65
            try clear c66
            try clear c67
            try clear c70
            try clear c70b0
            try clear c72
            try clear c73
            try clear c74
            try clear c75
            try clear c77
            try clear c78
            try clear c81
            try clear c82
            try clear c83
            try clear c85
            try clear c86
            try clear c89
            try clear c92
            try clear c92b0
            try clear c93
            try clear c93b0
            try clear c93b1
            try clear c97
            try clear c98
            try clear c99
            try clear c104
            try clear c105
            try clear c111
            try clear c112
            try clear c113
            try clear c114
            try clear c118
            try clear c119
            try clear c120
            try clear c121
            try clear c122
            try clear c124
            try clear c125
            try clear c126
            try clear c129
            try clear c130
            try clear c131
            try clear c132
            try clear c134
            try clear c135
            try clear c136
            try clear hcz100_0
            try clear hcz100_1
            try clear hcz100_2
            try clear hcz100_3
            try clear hcz102_0
            try clear hcz102_1
            try clear hcz102_2
            try clear hcz102_3
            try clear hcz106_0
            try clear hcz115_0
            try clear hcz115_1
            try clear hcz115_2
            try clear hcz115_3
            try clear hcz123_0
            try clear hcz123_1
            try clear hcz123_2
            try clear hcz123_3
            try clear hcz127_0
            try clear hcz127_1
            try clear hcz127_2
            try clear hcz127_3
            try clear hcz133_0
            try clear hcz133_1
            try clear hcz133_2
            try clear hcz133_3
            try clear hcz137_0
            try clear hcz137_1
            try clear hcz137_2
            try clear hcz137_3
            try clear hcz13_0
            try clear hcz15_0
            try clear hcz21_0
            try clear hcz21_1
            try clear hcz21_2
            try clear hcz21_3
            try clear hcz23_0
            try clear hcz29_0
            try clear hcz35_0
            try clear hcz35_1
            try clear hcz35_2
            try clear hcz35_3
            try clear hcz42_0
            try clear hcz42_1
            try clear hcz42_2
            try clear hcz42_3
            try clear hcz45_0
            try clear hcz45_1
            try clear hcz45_2
            try clear hcz45_3
            try clear hcz50_0
            try clear hcz50_1
            try clear hcz50_2
            try clear hcz50_3
            try clear hcz53_0
            try clear hcz53_1
            try clear hcz53_2
            try clear hcz53_3
            try clear hcz5_0
            try clear hcz68_0
            try clear hcz76_0
            try clear hcz76_1
            try clear hcz76_2
            try clear hcz76_3
            try clear hcz79_0
            try clear hcz79_1
            try clear hcz79_2
            try clear hcz79_3
            try clear hcz84_0
            try clear hcz84_1
            try clear hcz84_2
            try clear hcz84_3
            try clear hcz87_0
            try clear hcz87_1
            try clear hcz87_2
            try clear hcz87_3
            try clear hfz100_0
            try clear hfz100_1
            try clear hfz100_2
            try clear hfz100_3
            try clear hfz102_0
            try clear hfz102_1
            try clear hfz102_2
            try clear hfz102_3
            try clear hfz106_0
            try clear hfz115_0
            try clear hfz115_1
            try clear hfz115_2
            try clear hfz115_3
            try clear hfz123_0
            try clear hfz123_1
            try clear hfz123_2
            try clear hfz123_3
            try clear hfz127_0
            try clear hfz127_1
            try clear hfz127_2
            try clear hfz127_3
            try clear hfz133_0
            try clear hfz133_1
            try clear hfz133_2
            try clear hfz133_3
            try clear hfz137_0
            try clear hfz137_1
            try clear hfz137_2
            try clear hfz137_3
            try clear hfz13_0
            try clear hfz15_0
            try clear hfz21_0
            try clear hfz21_1
            try clear hfz21_2
            try clear hfz21_3
            try clear hfz23_0
            try clear hfz29_0
            try clear hfz35_0
            try clear hfz35_1
            try clear hfz35_2
            try clear hfz35_3
            try clear hfz42_0
            try clear hfz42_1
            try clear hfz42_2
            try clear hfz42_3
            try clear hfz45_0
            try clear hfz45_1
            try clear hfz45_2
            try clear hfz45_3
            try clear hfz50_0
            try clear hfz50_1
            try clear hfz50_2
            try clear hfz50_3
            try clear hfz53_0
            try clear hfz53_1
            try clear hfz53_2
            try clear hfz53_3
            try clear hfz5_0
            try clear hfz68_0
            try clear hfz76_0
            try clear hfz76_1
            try clear hfz76_2
            try clear hfz76_3
            try clear hfz79_0
            try clear hfz79_1
            try clear hfz79_2
            try clear hfz79_3
            try clear hfz84_0
            try clear hfz84_1
            try clear hfz84_2
            try clear hfz84_3
            try clear hfz87_0
            try clear hfz87_1
            try clear hfz87_2
            try clear hfz87_3
            try clear p2
            obtain ⟨kq, x87_95, rfl, HA, HJ95, HO_354002, HO_358000, HO_366002, HO_388002, BK341, BK353, BK357, BK365, BK387, HB⟩ := hcut
            have hl366002_95 := (Kd.R_reads' HO_366002.out).1
            rw [hl366002_95] at HO_366002
            (try simp only [hl366002_95])
            (try simp only [hl366002_95] at BK341)
            (try simp only [hl366002_95] at BK353)
            (try simp only [hl366002_95] at BK357)
            (try simp only [hl366002_95] at BK365)
            (try simp only [hl366002_95] at BK387)
            (try simp only [hl366002_95] at HO_354002)
            (try simp only [hl366002_95] at HO_358000)
            (try simp only [hl366002_95] at HO_388002)
            cases kq with
            | zero => exact absurd HA.out (by simp [laws_FnExactNewestSnap.j2])
            | succ kj95 =>
             have H := HA.out
             clear HA
             simp only [laws_FnExactNewestSnap.j2] at H
             by_cases c139 : x87_95 = true
             ·subst c139
              have H1 : (some false) = some r := by rw [if_pos rfl] at H; exact H
              clear H
              have H := H1
              clear H1
              exact absurd ((Option.some.inj H).trans HLT.out) (by decide)
             ·replace c139 := Bool.eq_false_iff.mpr c139
              subst c139
              have H1 : ((laws_heldSnap.f kj95 t358 t359 t375 t363 1).bind fun t389 => (if t389 < 0 then (some false) else (if t389 = t374 then (some true) else (some false)))) = some r := by rw [if_neg (show ¬ (false = true) by decide)] at H; exact H
              clear H
              have H := H1
              clear H1
              replace H := Option.bind_eq_some_iff.mp H
              obtain ⟨t389, A1400, H⟩ := H
              try dsimp only at H
              have A140 := Aside0.mk A1400
              clear A1400
              by_cases c141 : t389 < 0
              ·rw [if_pos c141] at H
               have c141b0 : decide (t389 < 0) = true := decide_eq_true c141
               clear c141
               exact absurd ((Option.some.inj H).trans HLT.out) (by decide)
              ·rw [if_neg c141] at H
               have c141b0 : decide (t389 < 0) = false := decide_eq_false c141
               clear c141
               by_cases c142 : t389 = t374
               ·rw [if_pos c142] at H
                have c142b0 : (t389 == t374) = true := beq_iff_eq.mpr c142
                have c142b1 : (t389 != t374) = false := bne_eq_false_iff_eq.mpr c142
                clear c142
                obtain rfl := Option.some.inj H
                have hnb143 := NB365_341.out
                have hnc143 := NB341_365.out
                have hnb144 := NB365_353.out
                have hnc144 := NB353_365.out
                have hnb145 := NB365_357.out
                have hnc145 := NB357_365.out
                have hnb146 := NB365_387.out
                have hnc146 := NB387_365.out
                obtain ⟨hcz147_0, hcz147_1, hcz147_2, hcz147_3, hfz147_0, hfz147_1, hfz147_2, hfz147_3⟩ := zc4 BK365.out
                go_wp2_with (first | ((with_reducible refine gate_callee (f := 32) rfl ?_); refine goesL_ (some 90) rfl rfl Tryd.func32 (by kernel_rfl) rfl #[.agg #[.int .i64 t358, .int .i64 t359, .slice Ao36 t375.length co36, .string t363], .int .i64 1] rfl zr ?_; (with_reducible refine (laws_heldSnap.calls kj95 t358 t359 _ _ t375 t363 1 t389 _ ?side1 ?side2 A140.out).mono ?_); (case side1 => repeat (first | exact (Kd.R_reads' HO_366002.out).2.2 | (with_reducible refine Kd.C_alloc ?_ _) | (with_reducible refine Kd.C_drewN ?_ _) | (with_reducible refine Kd.C_drew ?_))); (case side2 => exact (Kd.R_reads' HO_366002.out).2.1); rintro e w148 ⟨rfl, hb⟩; refine ⟨_, rfl, ?_⟩; replace HO_354002 := am (Kd.R_below (rx HO_354002.out) hb); replace HO_358000 := am (Kd.R_below (rx HO_358000.out) hb); replace HO_366002 := am (Kd.R_below (rx HO_366002.out) hb); replace HO_388002 := am (Kd.R_below (rx HO_388002.out) hb); replace BK341 := am (bb hb (kx BK341.out)); replace BK353 := am (bb hb (kx BK353.out)); replace BK357 := am (bb hb (kx BK357.out)); replace BK365 := am (bb hb (kx BK365.out)); replace BK387 := am (bb hb (kx BK387.out)); replace HB := am (below_step (zb5 HB.out GE341.out GE353.out GE357.out GE365.out GE387.out) hb); (try clear hb); (try clear hb2); (try clear hk); (try clear hi)))
                go_ret
                exact ⟨by first | rfl | (simp [errW_none, errW_some] <;> rfl) | (simp [*, errW_none, errW_some] <;> rfl), zb5 HB.out GE341.out GE353.out GE357.out GE365.out GE387.out⟩
               ·rw [if_neg c142] at H
                have c142b0 : (t389 == t374) = false := beq_eq_false_iff_ne.mpr c142
                have c142b1 : (t389 != t374) = true := bne_iff_ne.mpr c142
                exact absurd ((Option.some.inj H).trans HLT.out) (by decide)
          ·rw [if_neg c93] at H
           have c93b0 : (t376 == t374) = false := beq_eq_false_iff_ne.mpr c93
           have c93b1 : (t376 != t374) = true := bne_iff_ne.mpr c93
           exact absurd ((Option.some.inj H).trans HLT.out) (by decide)
     ·replace c58 := Bool.eq_false_iff.mpr c58
      subst c58
      have H1 : (some false) = some r := by rw [if_neg (show ¬ (false = true) by decide)] at H; exact H
      clear H
      have H := H1
      clear H1
      exact absurd ((Option.some.inj H).trans HLT.out) (by decide)

end Go.Proofs.YtogifkjkbfdocaaDoor.QFnExactNewestSnap
