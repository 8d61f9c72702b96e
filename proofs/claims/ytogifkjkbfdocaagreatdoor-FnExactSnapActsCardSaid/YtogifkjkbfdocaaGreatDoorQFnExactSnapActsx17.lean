/- Written by the kit's print.py, called by our own print2.sh with one import more; not by print.sh. -/
import Derived.Test.YtogifkjkbfdocaaGreatDoorQFnExactSnapActsx0
import Derived.Test.YtogifkjkbfdocaaGreatDoorQFnExactSnapActsx1
import Derived.Test.YtogifkjkbfdocaaGreatDoorQFnExactSnapActsx2
import Derived.Test.YtogifkjkbfdocaaGreatDoorQFnExactSnapActsx3
import Derived.Test.YtogifkjkbfdocaaGreatDoorQFnExactSnapActsx4
import Derived.Test.YtogifkjkbfdocaaGreatDoorQFnExactSnapActsx5
import Derived.Test.YtogifkjkbfdocaaGreatDoorQFnExactSnapActsx9
import Derived.Test.YtogifkjkbfdocaaGreatDoorQFnExactSnapActsx15
import Derived.Test.YtogifkjkbfdocaaGreatDoorQFnExactSnapActsx16
namespace Go.Proofs.YtogifkjkbfdocaaGreatDoor.QFnExactSnapActs
open Go.RowKit Go.Proofs.YtogifkjkbfdocaaGreatDoorW.PrintWords Go.Proofs.YtogifkjkbfdocaaGreatDoorW.PrintLast Go.Proofs.YtogifkjkbfdocaaGreatDoorW.PrintMore
attribute [local go_sem] max2_int min2_int max_two min_two max_three min_three max_four min_four   -- for this text's walks alone
open Go.Proofs.YtogifkjkbfdocaaGreatDoor.Laid
open Go.Proofs.YtogifkjkbfdocaaGreatDoor.Short
set_option linter.unusedVariables false
set_option linter.unusedSimpArgs false

/-! ### laws_FnExactSnapActs: function 5 -/
mutual
def laws_FnExactSnapActs.j0 : Nat → List (S67) → Bool → List (S67) → Bool → Bool → List (S90) → Int → Int → List Int → ByteArray → List (S63) → Int → Int → List Int → ByteArray → Option (Bool)
 | 0, _, _, _, _, _, _, _, _, _, _, _, _, _, _, _ => none
 | k + 1, x6, x7, x10, x11, x53, x418000, x419000, x419001, x419002, x419003, x438000, x445000, x445001, x445002, x445003 => if x53 = true then (some false) else ((laws_toDisk.f k x418000).bind fun t450 => ((laws_eqDisk.f k x438000 t450).bind fun t453 => (if t453 = true then ((laws_toSnap.f k x419000 x419001 x419002 x419003).bind fun bt454 => ((laws_eqSnap.f k x445000 x445001 x445002 x445003 bt454.1 bt454.2.1 bt454.2.2.1 bt454.2.2.2).bind fun t460 => (if t460 = true then ((laws_markDisk.f k x438000 1).bind fun bt461 => ((laws_markSnap.f k x445000 x445001 x445002 x445003 bt461.1).bind fun bt463 => (if bt463.1 < 0 then (laws_FnExactSnapActs.j1 k x6 x7 x10 true x418000 x419000 x419001 x419002 x419003) else ((laws_eqActS.f k x10 x6).bind fun t465 => (if t465 = true then (laws_FnExactSnapActs.j1 k x6 x7 x10 (x11 != x7) x418000 x419000 x419001 x419002 x419003) else (laws_FnExactSnapActs.j1 k x6 x7 x10 true x418000 x419000 x419001 x419002 x419003)))))) else (some false)))) else (some false))))
def laws_FnExactSnapActs.j1 : Nat → List (S67) → Bool → List (S67) → Bool → List (S90) → Int → Int → List Int → ByteArray → Option (Bool)
 | 0, _, _, _, _, _, _, _, _, _ => none
 | k + 1, x6, x7, x10, x82, x418000, x419000, x419001, x419002, x419003 => if x82 = true then (some false) else ((laws_markActS.f k x10 1).bind fun bt466 => ((laws_heldActS.f k bt466.2 1).bind fun t468 => (if t468 < 0 then (some false) else (if t468 = bt466.1 then ((laws_toDisk.f k x418000).bind fun t469 => ((laws_toSnap.f k x419000 x419001 x419002 x419003).bind fun bt472 => ((impl_SnapActs.f k t469 bt472.1 bt472.2.1 bt472.2.2.1 bt472.2.2.2).bind fun bt478 => ((laws_eqActS.f k bt478.1 x6).bind fun t482 => (if t482 = true then (laws_FnExactSnapActs.j2 k bt466.2 bt466.1 (bt478.2 != x7)) else (laws_FnExactSnapActs.j2 k bt466.2 bt466.1 true)))))) else (some false)))))
def laws_FnExactSnapActs.j2 : Nat → List (S67) → Int → Bool → Option (Bool)
 | 0, _, _, _ => none
 | k + 1, x10, x13, x110 => if x110 = true then (some false) else ((laws_heldActS.f k x10 1).bind fun t483 => (if t483 < 0 then (some false) else (if t483 = x13 then (some true) else (some false))))
end
def laws_FnExactSnapActs.f (k : Nat) (l0_0 : List (S90)) (a1_0 : Int) (a1_1 : Int) (l1_2 : List Int) (a1_3 : ByteArray) : Option (Bool) := (laws_szDisk.f k l0_0 1048576).bind fun t419 => (if t419 < 0 then (some true) else ((laws_szSnap.f a1_0 a1_1 l1_2 a1_3 t419).bind fun t420 => (if t420 < 0 then (some true) else ((laws_toDisk.f k l0_0).bind fun t421 => ((laws_toSnap.f k a1_0 a1_1 l1_2 a1_3).bind fun bt424 => ((spec_SnapActs.f k t421 bt424.1 bt424.2.1 bt424.2.2.1 bt424.2.2.2).bind fun bt430 => ((laws_toDisk.f k l0_0).bind fun t434 => ((laws_toSnap.f k a1_0 a1_1 l1_2 a1_3).bind fun bt438 => ((impl_SnapActs.f k t434 bt438.1 bt438.2.1 bt438.2.2.1 bt438.2.2.2).bind fun bt445 => ((laws_eqActS.f k bt445.1 bt430.1).bind fun t449 => (if t449 = true then (laws_FnExactSnapActs.j0 k bt430.1 bt430.2 bt445.1 bt445.2 (bt445.2 != bt430.2) l0_0 a1_0 a1_1 l1_2 a1_3 t434 bt438.1 bt438.2.1 bt438.2.2.1 bt438.2.2.2) else (laws_FnExactSnapActs.j0 k bt430.1 bt430.2 bt445.1 bt445.2 true l0_0 a1_0 a1_1 l1_2 a1_3 t434 bt438.1 bt438.2.1 bt438.2.2.1 bt438.2.2.2))))))))))))
theorem laws_FnExactSnapActs.mono_l : ∀ k, (∀ y0 y1 y2 y3 y4 y5 y6 y7 y8 y9 y10 y11 y12 y13 y14, LeO (laws_FnExactSnapActs.j0 k y0 y1 y2 y3 y4 y5 y6 y7 y8 y9 y10 y11 y12 y13 y14) (laws_FnExactSnapActs.j0 (k + 1) y0 y1 y2 y3 y4 y5 y6 y7 y8 y9 y10 y11 y12 y13 y14)) ∧ (∀ y0 y1 y2 y3 y4 y5 y6 y7 y8, LeO (laws_FnExactSnapActs.j1 k y0 y1 y2 y3 y4 y5 y6 y7 y8) (laws_FnExactSnapActs.j1 (k + 1) y0 y1 y2 y3 y4 y5 y6 y7 y8)) ∧ (∀ y0 y1 y2, LeO (laws_FnExactSnapActs.j2 k y0 y1 y2) (laws_FnExactSnapActs.j2 (k + 1) y0 y1 y2))
 | 0 => ⟨fun _ _ _ _ _ _ _ _ _ _ _ _ _ _ _ r h => by simp [laws_FnExactSnapActs.j0] at h, fun _ _ _ _ _ _ _ _ _ r h => by simp [laws_FnExactSnapActs.j1] at h, fun _ _ _ r h => by simp [laws_FnExactSnapActs.j2] at h⟩
 | k + 1 => by
  obtain ⟨ih0, ih1, ih2⟩ := laws_FnExactSnapActs.mono_l k
  refine ⟨?_, ?_, ?_⟩
  ·intro y0 y1 y2 y3 y4 y5 y6 y7 y8 y9 y10 y11 y12 y13 y14
   unfold laws_FnExactSnapActs.j0
   repeat' first
   | (with_reducible exact ih0 _ _ _ _ _ _ _ _ _ _ _ _ _ _ _)
   | (with_reducible exact ih1 _ _ _ _ _ _ _ _ _)
   | (with_reducible exact ih2 _ _ _)
   | (with_reducible exact impl_SnapActs.mono _ _ _ _ _ _)
   | (with_reducible exact laws_eqActS.mono _ _ _)
   | (with_reducible exact laws_eqDisk.mono _ _ _)
   | (with_reducible exact laws_eqSnap.mono _ _ _ _ _ _ _ _ _)
   | (with_reducible exact laws_heldActS.mono _ _ _)
   | (with_reducible exact laws_markActS.mono _ _ _)
   | (with_reducible exact laws_markDisk.mono _ _ _)
   | (with_reducible exact laws_markSnap.mono _ _ _ _ _ _)
   | (with_reducible exact laws_szDisk.mono _ _ _)
   | (with_reducible exact laws_toDisk.mono _ _)
   | (with_reducible exact laws_toSnap.mono _ _ _ _ _)
   | (with_reducible exact spec_SnapActs.mono _ _ _ _ _ _)
   | (with_reducible exact LeO.refl _)
   | (with_reducible exact LeO.none _)
   | (with_reducible refine LeO.ite ?_ ?_)
   | (with_reducible refine LeO.bind ?_ (fun _ => ?_))
   | exact ih0 _ _ _ _ _ _ _ _ _ _ _ _ _ _ _
   | exact ih1 _ _ _ _ _ _ _ _ _
   | exact ih2 _ _ _
   | exact impl_SnapActs.mono _ _ _ _ _ _
   | exact laws_eqActS.mono _ _ _
   | exact laws_eqDisk.mono _ _ _
   | exact laws_eqSnap.mono _ _ _ _ _ _ _ _ _
   | exact laws_heldActS.mono _ _ _
   | exact laws_markActS.mono _ _ _
   | exact laws_markDisk.mono _ _ _
   | exact laws_markSnap.mono _ _ _ _ _ _
   | exact laws_szDisk.mono _ _ _
   | exact laws_toDisk.mono _ _
   | exact laws_toSnap.mono _ _ _ _ _
   | exact spec_SnapActs.mono _ _ _ _ _ _
   | exact LeO.none _
   | refine LeO.ite ?_ ?_
   | refine LeO.bind ?_ (fun _ => ?_)
  ·intro y0 y1 y2 y3 y4 y5 y6 y7 y8
   unfold laws_FnExactSnapActs.j1
   repeat' first
   | (with_reducible exact ih0 _ _ _ _ _ _ _ _ _ _ _ _ _ _ _)
   | (with_reducible exact ih1 _ _ _ _ _ _ _ _ _)
   | (with_reducible exact ih2 _ _ _)
   | (with_reducible exact impl_SnapActs.mono _ _ _ _ _ _)
   | (with_reducible exact laws_eqActS.mono _ _ _)
   | (with_reducible exact laws_eqDisk.mono _ _ _)
   | (with_reducible exact laws_eqSnap.mono _ _ _ _ _ _ _ _ _)
   | (with_reducible exact laws_heldActS.mono _ _ _)
   | (with_reducible exact laws_markActS.mono _ _ _)
   | (with_reducible exact laws_markDisk.mono _ _ _)
   | (with_reducible exact laws_markSnap.mono _ _ _ _ _ _)
   | (with_reducible exact laws_szDisk.mono _ _ _)
   | (with_reducible exact laws_toDisk.mono _ _)
   | (with_reducible exact laws_toSnap.mono _ _ _ _ _)
   | (with_reducible exact spec_SnapActs.mono _ _ _ _ _ _)
   | (with_reducible exact LeO.refl _)
   | (with_reducible exact LeO.none _)
   | (with_reducible refine LeO.ite ?_ ?_)
   | (with_reducible refine LeO.bind ?_ (fun _ => ?_))
   | exact ih0 _ _ _ _ _ _ _ _ _ _ _ _ _ _ _
   | exact ih1 _ _ _ _ _ _ _ _ _
   | exact ih2 _ _ _
   | exact impl_SnapActs.mono _ _ _ _ _ _
   | exact laws_eqActS.mono _ _ _
   | exact laws_eqDisk.mono _ _ _
   | exact laws_eqSnap.mono _ _ _ _ _ _ _ _ _
   | exact laws_heldActS.mono _ _ _
   | exact laws_markActS.mono _ _ _
   | exact laws_markDisk.mono _ _ _
   | exact laws_markSnap.mono _ _ _ _ _ _
   | exact laws_szDisk.mono _ _ _
   | exact laws_toDisk.mono _ _
   | exact laws_toSnap.mono _ _ _ _ _
   | exact spec_SnapActs.mono _ _ _ _ _ _
   | exact LeO.none _
   | refine LeO.ite ?_ ?_
   | refine LeO.bind ?_ (fun _ => ?_)
  ·intro y0 y1 y2
   unfold laws_FnExactSnapActs.j2
   repeat' first
   | (with_reducible exact ih0 _ _ _ _ _ _ _ _ _ _ _ _ _ _ _)
   | (with_reducible exact ih1 _ _ _ _ _ _ _ _ _)
   | (with_reducible exact ih2 _ _ _)
   | (with_reducible exact impl_SnapActs.mono _ _ _ _ _ _)
   | (with_reducible exact laws_eqActS.mono _ _ _)
   | (with_reducible exact laws_eqDisk.mono _ _ _)
   | (with_reducible exact laws_eqSnap.mono _ _ _ _ _ _ _ _ _)
   | (with_reducible exact laws_heldActS.mono _ _ _)
   | (with_reducible exact laws_markActS.mono _ _ _)
   | (with_reducible exact laws_markDisk.mono _ _ _)
   | (with_reducible exact laws_markSnap.mono _ _ _ _ _ _)
   | (with_reducible exact laws_szDisk.mono _ _ _)
   | (with_reducible exact laws_toDisk.mono _ _)
   | (with_reducible exact laws_toSnap.mono _ _ _ _ _)
   | (with_reducible exact spec_SnapActs.mono _ _ _ _ _ _)
   | (with_reducible exact LeO.refl _)
   | (with_reducible exact LeO.none _)
   | (with_reducible refine LeO.ite ?_ ?_)
   | (with_reducible refine LeO.bind ?_ (fun _ => ?_))
   | exact ih0 _ _ _ _ _ _ _ _ _ _ _ _ _ _ _
   | exact ih1 _ _ _ _ _ _ _ _ _
   | exact ih2 _ _ _
   | exact impl_SnapActs.mono _ _ _ _ _ _
   | exact laws_eqActS.mono _ _ _
   | exact laws_eqDisk.mono _ _ _
   | exact laws_eqSnap.mono _ _ _ _ _ _ _ _ _
   | exact laws_heldActS.mono _ _ _
   | exact laws_markActS.mono _ _ _
   | exact laws_markDisk.mono _ _ _
   | exact laws_markSnap.mono _ _ _ _ _ _
   | exact laws_szDisk.mono _ _ _
   | exact laws_toDisk.mono _ _
   | exact laws_toSnap.mono _ _ _ _ _
   | exact spec_SnapActs.mono _ _ _ _ _ _
   | exact LeO.none _
   | refine LeO.ite ?_ ?_
   | refine LeO.bind ?_ (fun _ => ?_)
theorem laws_FnExactSnapActs.mono : ∀ a0 a1 a2 a3 a4 k, LeO (laws_FnExactSnapActs.f k a0 a1 a2 a3 a4) (laws_FnExactSnapActs.f (k + 1) a0 a1 a2 a3 a4) := by
 intro a0 a1 a2 a3 a4 k
 obtain ⟨ih0, ih1, ih2⟩ := laws_FnExactSnapActs.mono_l k
 unfold laws_FnExactSnapActs.f
 repeat' first
   | (with_reducible exact ih0 _ _ _ _ _ _ _ _ _ _ _ _ _ _ _)
   | (with_reducible exact ih1 _ _ _ _ _ _ _ _ _)
   | (with_reducible exact ih2 _ _ _)
   | (with_reducible exact impl_SnapActs.mono _ _ _ _ _ _)
   | (with_reducible exact laws_eqActS.mono _ _ _)
   | (with_reducible exact laws_eqDisk.mono _ _ _)
   | (with_reducible exact laws_eqSnap.mono _ _ _ _ _ _ _ _ _)
   | (with_reducible exact laws_heldActS.mono _ _ _)
   | (with_reducible exact laws_markActS.mono _ _ _)
   | (with_reducible exact laws_markDisk.mono _ _ _)
   | (with_reducible exact laws_markSnap.mono _ _ _ _ _ _)
   | (with_reducible exact laws_szDisk.mono _ _ _)
   | (with_reducible exact laws_toDisk.mono _ _)
   | (with_reducible exact laws_toSnap.mono _ _ _ _ _)
   | (with_reducible exact spec_SnapActs.mono _ _ _ _ _ _)
   | (with_reducible exact LeO.refl _)
   | (with_reducible exact LeO.none _)
   | (with_reducible refine LeO.ite ?_ ?_)
   | (with_reducible refine LeO.bind ?_ (fun _ => ?_))
   | exact ih0 _ _ _ _ _ _ _ _ _ _ _ _ _ _ _
   | exact ih1 _ _ _ _ _ _ _ _ _
   | exact ih2 _ _ _
   | exact impl_SnapActs.mono _ _ _ _ _ _
   | exact laws_eqActS.mono _ _ _
   | exact laws_eqDisk.mono _ _ _
   | exact laws_eqSnap.mono _ _ _ _ _ _ _ _ _
   | exact laws_heldActS.mono _ _ _
   | exact laws_markActS.mono _ _ _
   | exact laws_markDisk.mono _ _ _
   | exact laws_markSnap.mono _ _ _ _ _ _
   | exact laws_szDisk.mono _ _ _
   | exact laws_toDisk.mono _ _
   | exact laws_toSnap.mono _ _ _ _ _
   | exact spec_SnapActs.mono _ _ _ _ _ _
   | exact LeO.none _
   | refine LeO.ite ?_ ?_
   | refine LeO.bind ?_ (fun _ => ?_)
def laws_FnExactSnapActs.T8 : Bool × List (List Nat × List Nat) := (true, [([], []), ([0], [0]), ([], []), ([2, 1], [2]), ([1, 3, 3], [1, 3]), ([4], [4]), ([5], [5]), ([5], [5]), ([6, 4, 0, 1, 2, 3, 4, 5, 6], [6]), ([7, 8, 0, 1, 2, 3, 4, 5, 6, 7, 8], [7])])
def laws_FnExactSnapActs.B8 : List Nat := [0, 1, 0, 7, 15, 31, 63, 63, 127, 511]
theorem laws_FnExactSnapActs.tab8 : rtab .any (opsOf Tryz.f5 8) = laws_FnExactSnapActs.T8 := by kernel_rfl
theorem laws_FnExactSnapActs.bits8 : waitsOk laws_FnExactSnapActs.T8.2 laws_FnExactSnapActs.B8 = true := by kernel_rfl
def laws_FnExactSnapActs.T31 : Bool × List (List Nat × List Nat) := (true, [([], []), ([0], [0]), ([], []), ([2, 1], [2]), ([1, 3, 3], [1, 3]), ([4], [4]), ([5], [5]), ([5], [5]), ([6, 4, 0, 1, 2, 3, 4, 5, 6], [6]), ([7, 8, 0, 1, 2, 3, 4, 5, 6, 7, 8], [7])])
def laws_FnExactSnapActs.B31 : List Nat := [0, 1, 0, 7, 15, 31, 63, 63, 127, 511]
theorem laws_FnExactSnapActs.tab31 : rtab .any (opsOf Tryz.f5 31) = laws_FnExactSnapActs.T31 := by kernel_rfl
theorem laws_FnExactSnapActs.bits31 : waitsOk laws_FnExactSnapActs.T31.2 laws_FnExactSnapActs.B31 = true := by kernel_rfl
set_option maxHeartbeats 8000000 in
set_option maxRecDepth 100000 in
theorem laws_FnExactSnapActs.calls (k : Nat) (A0_0 : Option Addr) (c0_0 : Nat) (l0_0 : List (S90)) (a1_0 : Int) (a1_1 : Int) (A1_2 : Option Addr) (c1_2 : Nat) (l1_2 : List Int) (a1_3 : ByteArray) (r : Bool) (w : World) (hr0_0 : Kd.C k90 w A0_0 l0_0.length l0_0) (hc0_0 : l0_0.length ≤ c0_0) (hr1_2 : Kd.C (Kd.int .i64) w A1_2 l1_2.length l1_2) (hc1_2 : l1_2.length ≤ c1_2) (h : laws_FnExactSnapActs.f k l0_0 a1_0 a1_1 l1_2 a1_3 = some r) (hrt : r = true := by rfl) (hLW : LaidW w) :
  Calls Tryz.prog 5 #[.agg #[.slice A0_0 l0_0.length c0_0], .agg #[.int .i64 a1_0, .int .i64 a1_1, .slice A1_2 l1_2.length c1_2, .string a1_3]] w fun e w' => e = .returned (.bool r) ∧ Below w.heap.size w w' := by
 have HLW := Aside0.mk hLW
 clear hLW
 have hu24 := Tryz.underlying24
 have hu48 := Tryz.underlying48
 have hu30 := Tryz.underlying30
 have hu52 := Tryz.underlying52
 have HR0_0 := Aside0.mk hr0_0
 have HC0_0 := Aside0.mk hc0_0
 clear hr0_0 hc0_0
 have HR1_2 := Aside0.mk hr1_2
 have HC1_2 := Aside0.mk hc1_2
 clear hr1_2 hc1_2
 have HB := Aside0.mk (Below.refl w.heap.size w)
 have HLT := Aside0.mk hrt
 clear hrt
 have H : ((laws_szDisk.f k l0_0 1048576).bind fun t419 => (if t419 < 0 then (some true) else ((laws_szSnap.f a1_0 a1_1 l1_2 a1_3 t419).bind fun t420 => (if t420 < 0 then (some true) else ((laws_toDisk.f k l0_0).bind fun t421 => ((laws_toSnap.f k a1_0 a1_1 l1_2 a1_3).bind fun bt424 => ((spec_SnapActs.f k t421 bt424.1 bt424.2.1 bt424.2.2.1 bt424.2.2.2).bind fun bt430 => ((laws_toDisk.f k l0_0).bind fun t434 => ((laws_toSnap.f k a1_0 a1_1 l1_2 a1_3).bind fun bt438 => ((impl_SnapActs.f k t434 bt438.1 bt438.2.1 bt438.2.2.1 bt438.2.2.2).bind fun bt445 => ((laws_eqActS.f k bt445.1 bt430.1).bind fun t449 => (if t449 = true then (laws_FnExactSnapActs.j0 k bt430.1 bt430.2 bt445.1 bt445.2 (bt445.2 != bt430.2) l0_0 a1_0 a1_1 l1_2 a1_3 t434 bt438.1 bt438.2.1 bt438.2.2.1 bt438.2.2.2) else (laws_FnExactSnapActs.j0 k bt430.1 bt430.2 bt445.1 bt445.2 true l0_0 a1_0 a1_1 l1_2 a1_3 t434 bt438.1 bt438.2.1 bt438.2.2.1 bt438.2.2.2))))))))))))) = some r := h
 clear h
 replace H := Option.bind_eq_some_iff.mp H
 obtain ⟨t419, A30, H⟩ := H
 try dsimp only at H
 have A3 := Aside0.mk A30
 clear A30
 by_cases c4 : t419 < 0
 ·rw [if_pos c4] at H
  have c4b0 : decide (t419 < 0) = true := decide_eq_true c4
  clear c4
  obtain rfl := Option.some.inj H
  go_enter Tryz.func5, Tryz.ntmps5
  go_wp2_with (first | ((with_reducible refine gate_dst (N := 2) rfl ?_); refine box_event ?hg (N := 2) ?hd (cs := #[.slice A0_0 l0_0.length c0_0]) (t := 24) ?hr ?_; (case hd => rfl); (case hg => rfl); (case hr => first | (go_simp; done) | (go_simp; rfl)); intro gb417 hg w5 hbox hb; have BK417 := am (hbox); have GW417 := zge hg (zb0 HB.out); have GE417 := zge hg (zb0 HB.out); replace HB := am (below_step (zb0 HB.out) hb); clear hb hbox hg) | ((with_reducible refine gate_dst (N := 3) rfl ?_); refine box_event ?hg (N := 3) ?hd (cs := #[.int .i64 a1_0, .int .i64 a1_1, .slice A1_2 l1_2.length c1_2, .string a1_3]) (t := 48) ?hr ?_; (case hd => rfl); (case hg => rfl); (case hr => first | (go_simp; done) | (go_simp; rfl)); intro gb418 hg w6 hbox hb; have BK418 := am (hbox); have GW418 := zge hg (zb1 HB.out GE417.out); have GE418 := zge hg (zb1 HB.out GE417.out); have NB417_418 := znl hg (kx BK417.out); have NB418_417 := zng hg (kx BK417.out); replace BK417 := am (bb hb (kx BK417.out)); replace HB := am (below_step (zb1 HB.out GE417.out) hb); clear hb hbox hg; have hnb7 := NB417_418.out; have hnc7 := NB418_417.out; obtain ⟨hcz8_0, hfz8_0⟩ := zc1 BK417.out) | ((with_reducible refine gate_callee (f := 6) rfl ?_); refine goesL_ (some 19) rfl rfl Tryz.func6 (by kernel_rfl) rfl #[.agg #[.slice A0_0 l0_0.length c0_0], .int .i64 1048576] rfl zr ?_; (with_reducible refine (laws_szDisk.calls k _ _ l0_0 1048576 t419 _ ?side1 ?side2 A3.out).mono ?_); (case side1 => repeat (first | exact (Kd.C_below HR0_0.out HB.out) | (with_reducible refine Kd.C_alloc ?_ _) | (with_reducible refine Kd.C_drewN ?_ _) | (with_reducible refine Kd.C_drew ?_))); (case side2 => exact HC0_0.out); rintro e w9 ⟨rfl, hb⟩; refine ⟨_, rfl, ?_⟩; replace BK417 := am (bb hb (kx BK417.out)); replace BK418 := am (bb hb (kx BK418.out)); replace HB := am (below_step (zb2 HB.out GE417.out GE418.out) hb); (try clear hb); (try clear hb2); (try clear hk); (try clear hi)))
  go_ret
  exact ⟨by first | rfl | (simp [errW_none, errW_some] <;> rfl) | (simp [*, errW_none, errW_some] <;> rfl), zb2 HB.out GE417.out GE418.out⟩
 ·rw [if_neg c4] at H
  have c4b0 : decide (t419 < 0) = false := decide_eq_false c4
  clear c4
  replace H := Option.bind_eq_some_iff.mp H
  obtain ⟨t420, A100, H⟩ := H
  try dsimp only at H
  have A10 := Aside0.mk A100
  clear A100
  by_cases c11 : t420 < 0
  ·rw [if_pos c11] at H
   have c11b0 : decide (t420 < 0) = true := decide_eq_true c11
   clear c11
   obtain rfl := Option.some.inj H
   go_enter Tryz.func5, Tryz.ntmps5
   go_wp2_with (first | ((with_reducible refine gate_dst (N := 2) rfl ?_); refine box_event ?hg (N := 2) ?hd (cs := #[.slice A0_0 l0_0.length c0_0]) (t := 24) ?hr ?_; (case hd => rfl); (case hg => rfl); (case hr => first | (go_simp; done) | (go_simp; rfl)); intro gb417 hg w12 hbox hb; have BK417 := am (hbox); have GW417 := zge hg (zb0 HB.out); have GE417 := zge hg (zb0 HB.out); replace HB := am (below_step (zb0 HB.out) hb); clear hb hbox hg) | ((with_reducible refine gate_dst (N := 3) rfl ?_); refine box_event ?hg (N := 3) ?hd (cs := #[.int .i64 a1_0, .int .i64 a1_1, .slice A1_2 l1_2.length c1_2, .string a1_3]) (t := 48) ?hr ?_; (case hd => rfl); (case hg => rfl); (case hr => first | (go_simp; done) | (go_simp; rfl)); intro gb418 hg w13 hbox hb; have BK418 := am (hbox); have GW418 := zge hg (zb1 HB.out GE417.out); have GE418 := zge hg (zb1 HB.out GE417.out); have NB417_418 := znl hg (kx BK417.out); have NB418_417 := zng hg (kx BK417.out); replace BK417 := am (bb hb (kx BK417.out)); replace HB := am (below_step (zb1 HB.out GE417.out) hb); clear hb hbox hg; have hnb14 := NB417_418.out; have hnc14 := NB418_417.out; obtain ⟨hcz15_0, hfz15_0⟩ := zc1 BK417.out) | ((with_reducible refine gate_callee (f := 6) rfl ?_); refine goesL_ (some 19) rfl rfl Tryz.func6 (by kernel_rfl) rfl #[.agg #[.slice A0_0 l0_0.length c0_0], .int .i64 1048576] rfl zr ?_; (with_reducible refine (laws_szDisk.calls k _ _ l0_0 1048576 t419 _ ?side1 ?side2 A3.out).mono ?_); (case side1 => repeat (first | exact (Kd.C_below HR0_0.out HB.out) | (with_reducible refine Kd.C_alloc ?_ _) | (with_reducible refine Kd.C_drewN ?_ _) | (with_reducible refine Kd.C_drew ?_))); (case side2 => exact HC0_0.out); rintro e w16 ⟨rfl, hb⟩; refine ⟨_, rfl, ?_⟩; replace BK417 := am (bb hb (kx BK417.out)); replace BK418 := am (bb hb (kx BK418.out)); replace HB := am (below_step (zb2 HB.out GE417.out GE418.out) hb); (try clear hb); (try clear hb2); (try clear hk); (try clear hi); obtain ⟨hcz17_0, hcz17_1, hcz17_2, hcz17_3, hfz17_0, hfz17_1, hfz17_2, hfz17_3⟩ := zc4 BK418.out) | ((with_reducible refine gate_callee (f := 20) rfl ?_); refine goesL_ (some 24) rfl rfl Tryz.func20 (by kernel_rfl) rfl #[.agg #[.int .i64 a1_0, .int .i64 a1_1, .slice A1_2 l1_2.length c1_2, .string a1_3], .int .i64 t419] rfl zr ?_; (with_reducible refine (laws_szSnap.calls a1_0 a1_1 _ _ l1_2 a1_3 t419 t420 _ ?side1 ?side2 A10.out).mono ?_); (case side1 => repeat (first | exact (Kd.C_below HR1_2.out HB.out) | (with_reducible refine Kd.C_alloc ?_ _) | (with_reducible refine Kd.C_drewN ?_ _) | (with_reducible refine Kd.C_drew ?_))); (case side2 => exact HC1_2.out); rintro e w18 ⟨rfl, hb⟩; refine ⟨_, rfl, ?_⟩; replace BK417 := am (bb hb (kx BK417.out)); replace BK418 := am (bb hb (kx BK418.out)); replace HB := am (below_step (zb2 HB.out GE417.out GE418.out) hb); (try clear hb); (try clear hb2); (try clear hk); (try clear hi)))
   go_ret
   exact ⟨by first | rfl | (simp [errW_none, errW_some] <;> rfl) | (simp [*, errW_none, errW_some] <;> rfl), zb2 HB.out GE417.out GE418.out⟩
  ·rw [if_neg c11] at H
   have c11b0 : decide (t420 < 0) = false := decide_eq_false c11
   clear c11
   replace H := Option.bind_eq_some_iff.mp H
   obtain ⟨t421, A190, H⟩ := H
   try dsimp only at H
   have A19 := Aside0.mk A190
   clear A190
   replace H := Option.bind_eq_some_iff.mp H
   obtain ⟨⟨t424, t425, t426, t429⟩, A200, H⟩ := H
   try dsimp only at H
   have A20 := Aside0.mk A200
   clear A200
   replace H := Option.bind_eq_some_iff.mp H
   obtain ⟨⟨t430, t433⟩, A210, H⟩ := H
   try dsimp only at H
   have A21 := Aside0.mk A210
   clear A210
   replace H := Option.bind_eq_some_iff.mp H
   obtain ⟨t434, A220, H⟩ := H
   try dsimp only at H
   have A22 := Aside0.mk A220
   clear A220
   replace H := Option.bind_eq_some_iff.mp H
   obtain ⟨⟨t438, t439, t440, t443⟩, A230, H⟩ := H
   try dsimp only at H
   have A23 := Aside0.mk A230
   clear A230
   replace H := Option.bind_eq_some_iff.mp H
   obtain ⟨⟨t445, t448⟩, A240, H⟩ := H
   try dsimp only at H
   have A24 := Aside0.mk A240
   clear A240
   have HC25 := Aside0.mk H
   clear H
   go_enter Tryz.func5, Tryz.ntmps5
   try go_wp2_with (first | ((with_reducible refine gate_dst (N := 2) rfl ?_); refine box_event ?hg (N := 2) ?hd (cs := #[.slice A0_0 l0_0.length c0_0]) (t := 24) ?hr ?_; (case hd => rfl); (case hg => rfl); (case hr => first | (go_simp; done) | (go_simp; rfl)); intro gb417 hg w26 hbox hb; have BK417 := am (hbox); have GW417 := zge hg (zb0 HB.out); have GE417 := zge hg (zb0 HB.out); replace HB := am (below_step (zb0 HB.out) hb); clear hb hbox hg) | ((with_reducible refine gate_dst (N := 3) rfl ?_); refine box_event ?hg (N := 3) ?hd (cs := #[.int .i64 a1_0, .int .i64 a1_1, .slice A1_2 l1_2.length c1_2, .string a1_3]) (t := 48) ?hr ?_; (case hd => rfl); (case hg => rfl); (case hr => first | (go_simp; done) | (go_simp; rfl)); intro gb418 hg w27 hbox hb; have BK418 := am (hbox); have GW418 := zge hg (zb1 HB.out GE417.out); have GE418 := zge hg (zb1 HB.out GE417.out); have NB417_418 := znl hg (kx BK417.out); have NB418_417 := zng hg (kx BK417.out); replace BK417 := am (bb hb (kx BK417.out)); replace HB := am (below_step (zb1 HB.out GE417.out) hb); clear hb hbox hg; have hnb28 := NB417_418.out; have hnc28 := NB418_417.out; obtain ⟨hcz29_0, hfz29_0⟩ := zc1 BK417.out) | ((with_reducible refine gate_callee (f := 6) rfl ?_); refine goesL_ (some 19) rfl rfl Tryz.func6 (by kernel_rfl) rfl #[.agg #[.slice A0_0 l0_0.length c0_0], .int .i64 1048576] rfl zr ?_; (with_reducible refine (laws_szDisk.calls k _ _ l0_0 1048576 t419 _ ?side1 ?side2 A3.out).mono ?_); (case side1 => repeat (first | exact (Kd.C_below HR0_0.out HB.out) | (with_reducible refine Kd.C_alloc ?_ _) | (with_reducible refine Kd.C_drewN ?_ _) | (with_reducible refine Kd.C_drew ?_))); (case side2 => exact HC0_0.out); rintro e w30 ⟨rfl, hb⟩; refine ⟨_, rfl, ?_⟩; replace BK417 := am (bb hb (kx BK417.out)); replace BK418 := am (bb hb (kx BK418.out)); replace HB := am (below_step (zb2 HB.out GE417.out GE418.out) hb); (try clear hb); (try clear hb2); (try clear hk); (try clear hi); obtain ⟨hcz31_0, hcz31_1, hcz31_2, hcz31_3, hfz31_0, hfz31_1, hfz31_2, hfz31_3⟩ := zc4 BK418.out) | ((with_reducible refine gate_callee (f := 20) rfl ?_); refine goesL_ (some 24) rfl rfl Tryz.func20 (by kernel_rfl) rfl #[.agg #[.int .i64 a1_0, .int .i64 a1_1, .slice A1_2 l1_2.length c1_2, .string a1_3], .int .i64 t419] rfl zr ?_; (with_reducible refine (laws_szSnap.calls a1_0 a1_1 _ _ l1_2 a1_3 t419 t420 _ ?side1 ?side2 A10.out).mono ?_); (case side1 => repeat (first | exact (Kd.C_below HR1_2.out HB.out) | (with_reducible refine Kd.C_alloc ?_ _) | (with_reducible refine Kd.C_drewN ?_ _) | (with_reducible refine Kd.C_drew ?_))); (case side2 => exact HC1_2.out); rintro e w32 ⟨rfl, hb⟩; refine ⟨_, rfl, ?_⟩; replace BK417 := am (bb hb (kx BK417.out)); replace BK418 := am (bb hb (kx BK418.out)); replace HB := am (below_step (zb2 HB.out GE417.out GE418.out) hb); (try clear hb); (try clear hb2); (try clear hk); (try clear hi)))
   replace BK417 := am (blk_drew BK417.out)
   replace BK418 := am (blk_drew BK418.out)
   replace HB := am (below_drew1 HB.out)
   refine start_ (n := 10) (S := fun w' => w'.cell? ⟨gb417, 0, none⟩ = some (.slice A0_0 l0_0.length c0_0) ∧ w'.cell? ⟨gb418, 0, none⟩ = some (.int .i64 a1_0) ∧ w'.cell? ⟨gb418, 1, none⟩ = some (.int .i64 a1_1) ∧ w'.cell? ⟨gb418, 2, none⟩ = some (.slice A1_2 l1_2.length c1_2) ∧ w'.cell? ⟨gb418, 3, none⟩ = some (.string a1_3)) (ds := []) #[false, false, false, false, false, false, false, false, false, false] (by kernel_rfl) rfl rfl ⟨ct BK417.out 0, ct BK418.out 0, ct BK418.out 1, ct BK418.out 2, ct BK418.out 3⟩ (fun hHeld => ?_); refine with_tabW laws_FnExactSnapActs.tab8 laws_FnExactSnapActs.bits8 (fun HT_ HW_ => ?_)
   generalize w32.drew = w33 at BK417 BK418 HB hHeld ⊢
   refine take_ (i := 0) (N := some 28) (v := ?_) (a' := ?_) #[true, false, false, false, false, false, false, false, false, false] rfl rfl (take_ofW HT_.out HW_.out (by kernel_rfl)) (fun _ _ _ h => h) (Or.inl ⟨by rfl, ?_⟩) hHeld ?_ ?_
   rotate_left
   ·rintro w' ⟨s0, s1, s2, s3, s4⟩
    go_simp
    with_reducible rfl
   rotate_left
   ·simp only [Act.put, List.setIfInBounds_toArray, List.set_cons_zero, List.set_cons_succ, i64_w, i32_w]
    rfl
   refine take_ (i := 2) (N := some 30) (v := ?_) (a' := ?_) #[true, false, true, false, false, false, false, false, false, false] rfl rfl (take_ofW HT_.out HW_.out (by kernel_rfl)) (fun _ _ _ h => h) (Or.inl ⟨by rfl, ?_⟩) hHeld ?_ ?_
   rotate_left
   ·rintro w' ⟨s0, s1, s2, s3, s4⟩
    go_simp
    with_reducible rfl
   rotate_left
   ·simp only [Act.put, List.setIfInBounds_toArray, List.set_cons_zero, List.set_cons_succ, i64_w, i32_w]
    rfl
   refine one_ (i := 1) (N := some 29) #[true, true, true, false, false, false, false, false, false, false] rfl rfl (one_of HT_.out (by kernel_rfl)) (by decide) (fun K hK => ?_)
   refine goes_ Tryz.func8 (by kernel_rfl) rfl #[.agg #[.slice A0_0 l0_0.length c0_0]] (by rfl) rfl rfl zr ?_
   with_reducible refine (laws_toDisk.calls k _ _ l0_0 t421 _ ?side1 ?side2 A19.out).mono ?_
   (case side1 => repeat (first | exact (Kd.C_below HR0_0.out HB.out) | (with_reducible refine Kd.C_alloc ?_ _) | (with_reducible refine Kd.C_drewN ?_ _) | (with_reducible refine Kd.C_drew ?_)))
   (case side2 => exact HC0_0.out)
   rintro e w34 ⟨v422, rfl, ho0, hb⟩
   refine ⟨_, rfl, ?_⟩
   have HO423 := am (Kd.R_lower ho0 (below_size (zb2 HB.out GE417.out GE418.out)))
   replace BK417 := am (bb hb (kx BK417.out))
   replace BK418 := am (bb hb (kx BK418.out))
   replace HB := am (below_step (zb2 HB.out GE417.out GE418.out) hb)
   try clear hb
   try clear hb2
   try clear hk
   try clear hi
   try clear ho0
   refine hK.out _ _ ⟨ct BK417.out 0, ct BK418.out 0, ct BK418.out 1, ct BK418.out 2, ct BK418.out 3⟩ (fun hHeld => ?_)
   clear hK K
   refine norm_ (a' := ?_) ?_ ?_
   rotate_left
   ·show Act.put _ (some 29) _ = _
    simp only [Act.put, List.setIfInBounds_toArray, List.set_cons_zero, List.set_cons_succ, i64_w, i32_w]
    rfl
   refine one_ (i := 3) (N := some 31) #[true, true, true, true, false, false, false, false, false, false] rfl rfl (one_of HT_.out (by kernel_rfl)) (by decide) (fun K hK => ?_)
   refine goes_ Tryz.func22 (by kernel_rfl) rfl #[.agg #[.int .i64 a1_0, .int .i64 a1_1, .slice A1_2 l1_2.length c1_2, .string a1_3]] (by rfl) rfl rfl zr ?_
   with_reducible refine (laws_toSnap.calls k a1_0 a1_1 _ _ l1_2 a1_3 t424 t425 t426 t429 _ ?side1 ?side2 A20.out).mono ?_
   (case side1 => repeat (first | exact (Kd.C_below HR1_2.out HB.out) | (with_reducible refine Kd.C_alloc ?_ _) | (with_reducible refine Kd.C_drewN ?_ _) | (with_reducible refine Kd.C_drew ?_)))
   (case side2 => exact HC1_2.out)
   rintro e w35 ⟨v427, rfl, ho0, hb⟩
   refine ⟨_, rfl, ?_⟩
   have HO428 := am (Kd.R_lower ho0 (below_size (zb2 HB.out GE417.out GE418.out)))
   replace HO423 := am (Kd.R_below (rx HO423.out) hb)
   replace BK417 := am (bb hb (kx BK417.out))
   replace BK418 := am (bb hb (kx BK418.out))
   replace HB := am (below_step (zb2 HB.out GE417.out GE418.out) hb)
   try clear hb
   try clear hb2
   try clear hk
   try clear hi
   try clear ho0
   obtain ⟨Ao36, co36, eo36⟩ := Kd.R_slice HO423.out
   (first | subst eo36 | (injection eo36 with f1_ f2_ f3_; have f4_ := f1_.symm; have f5_ := f3_.symm; clear f1_ f2_ f3_; subst f4_; subst f5_))
   obtain ⟨Ao37, co37, eo37⟩ := Kd.R_slice HO428.out
   (first | subst eo37 | (injection eo37 with f1_ f2_ f3_; have f4_ := f1_.symm; have f5_ := f3_.symm; clear f1_ f2_ f3_; subst f4_; subst f5_))
   refine hK.out _ _ ⟨ct BK417.out 0, ct BK418.out 0, ct BK418.out 1, ct BK418.out 2, ct BK418.out 3⟩ (fun hHeld => ?_)
   clear hK K
   refine norm_ (a' := ?_) ?_ ?_
   rotate_left
   ·show Act.put _ (some 31) _ = _
    simp only [Act.put, List.setIfInBounds_toArray, List.set_cons_zero, List.set_cons_succ, i64_w, i32_w]
    rfl
   refine one_ (i := 4) (N := some 32) #[true, true, true, true, true, false, false, false, false, false] rfl rfl (one_of HT_.out (by kernel_rfl)) (by decide) (fun K hK => ?_)
   refine goes_ Tryz.func21 (by kernel_rfl) rfl #[.agg #[.slice Ao36 t421.length co36], .agg #[.int .i64 t424, .int .i64 t425, .slice Ao37 t426.length co37, .string t429]] (by rfl) rfl rfl zr ?_
   with_reducible refine (spec_SnapActs.calls k _ _ t421 t424 t425 _ _ t426 t429 t430 t433 _ ?side1 ?side2 ?side3 ?side4 A21.out).mono ?_
   (case side1 => repeat (first | exact (Kd.R_reads' HO423.out).2.2 | (with_reducible refine Kd.C_alloc ?_ _) | (with_reducible refine Kd.C_drewN ?_ _) | (with_reducible refine Kd.C_drew ?_)))
   (case side2 => exact (Kd.R_reads' HO423.out).2.1)
   (case side3 => repeat (first | exact (Kd.R_reads' HO428.out).2.2 | (with_reducible refine Kd.C_alloc ?_ _) | (with_reducible refine Kd.C_drewN ?_ _) | (with_reducible refine Kd.C_drew ?_)))
   (case side4 => exact (Kd.R_reads' HO428.out).2.1)
   rintro e w38 ⟨v431, rfl, ho0, hb⟩
   refine ⟨_, rfl, ?_⟩
   have HO432 := am (Kd.R_lower ho0 (below_size (zb2 HB.out GE417.out GE418.out)))
   replace HO423 := am (Kd.R_below (rx HO423.out) hb)
   replace HO428 := am (Kd.R_below (rx HO428.out) hb)
   replace BK417 := am (bb hb (kx BK417.out))
   replace BK418 := am (bb hb (kx BK418.out))
   replace HB := am (below_step (zb2 HB.out GE417.out GE418.out) hb)
   try clear hb
   try clear hb2
   try clear hk
   try clear hi
   try clear ho0
   refine hK.out _ _ ⟨ct BK417.out 0, ct BK418.out 0, ct BK418.out 1, ct BK418.out 2, ct BK418.out 3⟩ (fun hHeld => ?_)
   clear hK K
   refine norm_ (a' := ?_) ?_ ?_
   rotate_left
   ·show Act.put _ (some 32) _ = _
    simp only [Act.put, List.setIfInBounds_toArray, List.set_cons_zero, List.set_cons_succ, i64_w, i32_w]
    rfl
   refine pure_ (i := 5) (N := some 27) (v := ?_) (a' := ?_) #[true, true, true, true, true, true, false, false, false, false] rfl rfl (any_of HT_.out (by kernel_rfl)) (fun _ _ _ h => h) (Or.inl ⟨by rfl, ?_⟩) ?_ ?_
   rotate_left
   ·intro w'
    go_simp
    with_reducible rfl
   rotate_left
   ·simp only [Act.put, List.setIfInBounds_toArray, List.set_cons_zero, List.set_cons_succ, i64_w, i32_w]
    rfl
   refine pure_ (i := 6) (N := some 33) (v := ?_) (a' := ?_) #[true, true, true, true, true, true, true, false, false, false] rfl rfl (any_of HT_.out (by kernel_rfl)) (fun _ _ _ h => h) (Or.inl ⟨by rfl, ?_⟩) ?_ ?_
   rotate_left
   ·intro w'
    go_simp
    with_reducible rfl
   rotate_left
   ·simp only [Act.put, List.setIfInBounds_toArray, List.set_cons_zero, List.set_cons_succ, i64_w, i32_w]
    rfl
   refine pure_ (i := 7) (N := some 34) (v := ?_) (a' := ?_) #[true, true, true, true, true, true, true, true, false, false] rfl rfl (any_of HT_.out (by kernel_rfl)) (fun _ _ _ h => h) (Or.inl ⟨by rfl, ?_⟩) ?_ ?_
   rotate_left
   ·intro w'
    go_simp
    with_reducible rfl
   rotate_left
   ·simp only [Act.put, List.setIfInBounds_toArray, List.set_cons_zero, List.set_cons_succ, i64_w, i32_w]
    rfl
   refine pure_ (i := 8) (N := some 6) (v := ?_) (a' := ?_) #[true, true, true, true, true, true, true, true, true, false] rfl rfl (any_of HT_.out (by kernel_rfl)) (fun _ _ _ h => h) (Or.inl ⟨by rfl, ?_⟩) ?_ ?_
   rotate_left
   ·intro w'
    go_simp
    with_reducible rfl
   rotate_left
   ·simp only [Act.put, List.setIfInBounds_toArray, List.set_cons_zero, List.set_cons_succ, i64_w, i32_w]
    rfl
   refine pure_ (i := 9) (N := some 7) (v := ?_) (a' := ?_) #[true, true, true, true, true, true, true, true, true, true] rfl rfl (any_of HT_.out (by kernel_rfl)) (fun _ _ _ h => h) (Or.inl ⟨by rfl, ?_⟩) ?_ ?_
   rotate_left
   ·intro w'
    go_simp
    with_reducible rfl
   rotate_left
   ·simp only [Act.put, List.setIfInBounds_toArray, List.set_cons_zero, List.set_cons_succ, i64_w, i32_w]
    rfl
   refine done_ (done_of HT_.out (by kernel_rfl)) ?_
   obtain ⟨hcz39_0, hfz39_0⟩ := zc1 BK417.out
   go_upto_region 12 with (first | ((with_reducible refine gate_callee (f := 8) rfl ?_); refine goesL_ (some 36) rfl rfl Tryz.func8 (by kernel_rfl) rfl #[.agg #[.slice A0_0 l0_0.length c0_0]] rfl zr ?_; (with_reducible refine (laws_toDisk.calls k _ _ l0_0 t434 _ ?side1 ?side2 A22.out).mono ?_); (case side1 => repeat (first | exact (Kd.C_below HR0_0.out HB.out) | (with_reducible refine Kd.C_alloc ?_ _) | (with_reducible refine Kd.C_drewN ?_ _) | (with_reducible refine Kd.C_drew ?_))); (case side2 => exact HC0_0.out); rintro e w40 ⟨v435, rfl, ho0, hb⟩; refine ⟨_, rfl, ?_⟩; have HO436 := am (Kd.R_lower (Kd.R_new' ho0 (Kd.R_lt (rx HO423.out))) (below_size (zb2 HB.out GE417.out GE418.out))); replace HO423 := am (Kd.R_elder' (rx HO423.out) (Kd.R_base ho0) hb); replace HO428 := am (Kd.R_below (rx HO428.out) hb); replace HO432 := am (Kd.R_below (rx HO432.out) hb); replace BK417 := am (bb hb (kx BK417.out)); replace BK418 := am (bb hb (kx BK418.out)); replace HB := am (below_step (zb2 HB.out GE417.out GE418.out) hb); (try clear hb); (try clear hb2); (try clear hk); (try clear hi); (try clear ho0)) | ((with_reducible refine gate_dst (N := 8) rfl ?_); refine box_event ?hg (N := 8) ?hd (cs := #[.slice none 0 0]) (t := 30) ?hr ?_; (case hd => rfl); (case hg => rfl); (case hr => first | (go_simp; done) | (go_simp; rfl)); intro gb437 hg w41 hbox hb; have BK437 := am (hbox); have GW437 := zge hg (zb2 HB.out GE417.out GE418.out); have GE437 := zge hg (zb2 HB.out GE417.out GE418.out); have NB417_437 := znl hg (kx BK417.out); have NB437_417 := zng hg (kx BK417.out); have NB418_437 := znl hg (kx BK418.out); have NB437_418 := zng hg (kx BK418.out); replace HO423 := am (Kd.R_below (rx HO423.out) hb); replace HO428 := am (Kd.R_below (rx HO428.out) hb); replace HO432 := am (Kd.R_below (rx HO432.out) hb); replace HO436 := am (Kd.R_below (rx HO436.out) hb); replace BK417 := am (bb hb (kx BK417.out)); replace BK418 := am (bb hb (kx BK418.out)); replace HB := am (below_step (zb2 HB.out GE417.out GE418.out) hb); clear hb hbox hg; obtain ⟨Ao42, co42, eo42⟩ := Kd.R_slice HO436.out; subst eo42; have hnb43 := NB437_417.out; have hnc43 := NB417_437.out; have hnb44 := NB437_418.out; have hnc44 := NB418_437.out; obtain ⟨hcz45_0, hfz45_0⟩ := zc1 BK437.out; obtain ⟨hcz46_0, hcz46_1, hcz46_2, hcz46_3, hfz46_0, hfz46_1, hfz46_2, hfz46_3⟩ := zc4 BK418.out) | ((with_reducible refine gate_callee (f := 22) rfl ?_); refine goesL_ (some 38) rfl rfl Tryz.func22 (by kernel_rfl) rfl #[.agg #[.int .i64 a1_0, .int .i64 a1_1, .slice A1_2 l1_2.length c1_2, .string a1_3]] rfl zr ?_; (with_reducible refine (laws_toSnap.calls k a1_0 a1_1 _ _ l1_2 a1_3 t438 t439 t440 t443 _ ?side1 ?side2 A23.out).mono ?_); (case side1 => exact Kd.C_below HR1_2.out (zb3 HB.out GE417.out GE418.out GE437.out)); (case side2 => exact HC1_2.out); rintro e w47 ⟨v441, rfl, ho0, hb⟩; refine ⟨_, rfl, ?_⟩; have HO442 := am (Kd.R_lower (Kd.R_new' ho0 (Kd.R_lt (rx ((Kd.R_mono (Kd.R_far (p := ⟨gb437, 0, none⟩) (Kd.R_types HO428.out BK437.out (by decide)) (fun _ hk => hk.2) (.slice Ao42 t434.length co42)) (fun _ h_ => h_.1)))))) (below_size (zb3 HB.out GE417.out GE418.out GE437.out))); replace HO423 := am (Kd.R_below (rx ((Kd.R_mono (Kd.R_far (p := ⟨gb437, 0, none⟩) (Kd.R_types HO423.out BK437.out (by decide)) (fun _ hk => hk.2) (.slice Ao42 t434.length co42)) (fun _ h_ => h_.1)))) hb); replace HO428 := am (Kd.R_elder' (rx ((Kd.R_mono (Kd.R_far (p := ⟨gb437, 0, none⟩) (Kd.R_types HO428.out BK437.out (by decide)) (fun _ hk => hk.2) (.slice Ao42 t434.length co42)) (fun _ h_ => h_.1)))) (Kd.R_base ho0) hb); replace HO432 := am (Kd.R_below (rx ((Kd.R_mono (Kd.R_far (p := ⟨gb437, 0, none⟩) (Kd.R_types HO432.out BK437.out (by decide)) (fun _ hk => hk.2) (.slice Ao42 t434.length co42)) (fun _ h_ => h_.1)))) hb); replace HO436 := am (Kd.R_below (rx ((Kd.R_mono (Kd.R_far (p := ⟨gb437, 0, none⟩) (Kd.R_types HO436.out BK437.out (by decide)) (fun _ hk => hk.2) (.slice Ao42 t434.length co42)) (fun _ h_ => h_.1)))) hb); replace BK417 := am (bb hb (zf1 BK417.out NB417_437.out)); replace BK418 := am (bb hb (zf1 BK418.out NB418_437.out)); replace BK437 := am (blk_below (g := gb437) (o := .cells #[.slice Ao42 t434.length co42] 30 (0, 0)) (by (with_reducible repeat (first | refine blk_drewN ?_ _ | refine blk_drew ?_ | refine blk_alloc ?_ _)); refine blk_put (cs := #[.slice none 0 0]) ?_ 0 _ rfl; (with_reducible repeat (first | refine blk_drewN ?_ _ | refine blk_drew ?_ | refine blk_alloc ?_ _)); exact BK437.out) hb); replace HB := am (below_step (zb3 HB.out GE417.out GE418.out GE437.out) hb); (try clear hb); (try clear hb2); (try clear hk); (try clear hi); (try clear ho0)) | ((with_reducible refine gate_dst (N := 9) rfl ?_); refine box_event ?hg (N := 9) ?hd (cs := #[.int .i64 0, .int .i64 0, .slice none 0 0, .string (⟨#[]⟩ : ByteArray)]) (t := 52) ?hr ?_; (case hd => rfl); (case hg => rfl); (case hr => first | (go_simp; done) | (go_simp; rfl)); intro gb444 hg w48 hbox hb; have BK444 := am (hbox); have GW444 := zge hg (zb3 HB.out GE417.out GE418.out GE437.out); have GE444 := zge hg (zb3 HB.out GE417.out GE418.out GE437.out); have NB417_444 := znl hg (kx BK417.out); have NB444_417 := zng hg (kx BK417.out); have NB418_444 := znl hg (kx BK418.out); have NB444_418 := zng hg (kx BK418.out); have NB437_444 := znl hg (kx BK437.out); have NB444_437 := zng hg (kx BK437.out); replace HO423 := am (Kd.R_below (rx HO423.out) hb); replace HO428 := am (Kd.R_below (rx HO428.out) hb); replace HO432 := am (Kd.R_below (rx HO432.out) hb); replace HO436 := am (Kd.R_below (rx HO436.out) hb); replace HO442 := am (Kd.R_below (rx HO442.out) hb); replace BK417 := am (bb hb (kx BK417.out)); replace BK418 := am (bb hb (kx BK418.out)); replace BK437 := am (bb hb (kx BK437.out)); replace HB := am (below_step (zb3 HB.out GE417.out GE418.out GE437.out) hb); clear hb hbox hg; have hnb49 := NB444_417.out; have hnc49 := NB417_444.out; have hnb50 := NB444_418.out; have hnc50 := NB418_444.out; have hnb51 := NB444_437.out; have hnc51 := NB437_444.out; obtain ⟨hcz52_0, hcz52_1, hcz52_2, hcz52_3, hfz52_0, hfz52_1, hfz52_2, hfz52_3⟩ := zc4 BK444.out; obtain ⟨Ao53, co53, eo53⟩ := Kd.R_slice HO442.out; subst eo53; obtain ⟨hcz54_0, hfz54_0⟩ := zc1 BK437.out) | ((with_reducible refine gate_callee (f := 23) rfl ?_); refine goesL_ (some 42) rfl rfl Tryz.func23 (by kernel_rfl) rfl #[.agg #[.slice Ao42 t434.length co42], .agg #[.int .i64 t438, .int .i64 t439, .slice Ao53 t440.length co53, .string t443]] rfl zr ?_; (with_reducible refine (impl_SnapActs.calls k _ _ t434 t438 t439 _ _ t440 t443 t445 t448 _ ?side1 ?side2 ?side3 ?side4 A24.out ?laid).mono ?_); (case laid => exact LaidW.later HLW.out (zb4 HB.out GE417.out GE418.out GE437.out GE444.out)); (case side1 => refine (Kd.R_reads' (e := 63) (base := w.heap.size) (ok := fun k_ => (True ∧ some k_ ≠ (.slice Ao36 t421.length co36 : Value).ownBlock)) (n := t434.length) (c := co42) ?_).2.2; exact (rx ((Kd.R_mono (Kd.R_far (p := ⟨gb444, 3, none⟩) (Kd.R_far (p := ⟨gb444, 2, none⟩) (Kd.R_far (p := ⟨gb444, 1, none⟩) (Kd.R_far (p := ⟨gb444, 0, none⟩) (Kd.R_types HO436.out BK444.out (by decide)) (fun _ hk => hk.2) (.int .i64 t438)) (fun _ hk => hk.2) (.int .i64 t439)) (fun _ hk => hk.2) (.slice Ao53 t440.length co53)) (fun _ hk => hk.2) (.string t443)) (fun _ h_ => h_.1))))); (case side2 => exact (Kd.R_reads' HO436.out).2.1); (case side3 => refine (Kd.R_reads' (e := 3) (base := w.heap.size) (ok := fun k_ => (True ∧ some k_ ≠ (.slice Ao37 t426.length co37 : Value).ownBlock)) (n := t440.length) (c := co53) ?_).2.2; exact (rx ((Kd.R_mono (Kd.R_far (p := ⟨gb444, 3, none⟩) (Kd.R_far (p := ⟨gb444, 2, none⟩) (Kd.R_far (p := ⟨gb444, 1, none⟩) (Kd.R_far (p := ⟨gb444, 0, none⟩) (Kd.R_types HO442.out BK444.out (by decide)) (fun _ hk => hk.2) (.int .i64 t438)) (fun _ hk => hk.2) (.int .i64 t439)) (fun _ hk => hk.2) (.slice Ao53 t440.length co53)) (fun _ hk => hk.2) (.string t443)) (fun _ h_ => h_.1))))); (case side4 => exact (Kd.R_reads' HO442.out).2.1); rintro e w55 ⟨v446, rfl, ho0, hb⟩; refine ⟨_, rfl, ?_⟩; have HO447 := am (Kd.R_lower (Kd.R_new' ho0 (Kd.R_lt (rx ((Kd.R_mono (Kd.R_far (p := ⟨gb444, 3, none⟩) (Kd.R_far (p := ⟨gb444, 2, none⟩) (Kd.R_far (p := ⟨gb444, 1, none⟩) (Kd.R_far (p := ⟨gb444, 0, none⟩) (Kd.R_types HO432.out BK444.out (by decide)) (fun _ hk => hk.2) (.int .i64 t438)) (fun _ hk => hk.2) (.int .i64 t439)) (fun _ hk => hk.2) (.slice Ao53 t440.length co53)) (fun _ hk => hk.2) (.string t443)) (fun _ h_ => h_.1)))))) (below_size (zb4 HB.out GE417.out GE418.out GE437.out GE444.out))); replace HO423 := am (Kd.R_below (rx ((Kd.R_mono (Kd.R_far (p := ⟨gb444, 3, none⟩) (Kd.R_far (p := ⟨gb444, 2, none⟩) (Kd.R_far (p := ⟨gb444, 1, none⟩) (Kd.R_far (p := ⟨gb444, 0, none⟩) (Kd.R_types HO423.out BK444.out (by decide)) (fun _ hk => hk.2) (.int .i64 t438)) (fun _ hk => hk.2) (.int .i64 t439)) (fun _ hk => hk.2) (.slice Ao53 t440.length co53)) (fun _ hk => hk.2) (.string t443)) (fun _ h_ => h_.1)))) hb); replace HO428 := am (Kd.R_below (rx ((Kd.R_mono (Kd.R_far (p := ⟨gb444, 3, none⟩) (Kd.R_far (p := ⟨gb444, 2, none⟩) (Kd.R_far (p := ⟨gb444, 1, none⟩) (Kd.R_far (p := ⟨gb444, 0, none⟩) (Kd.R_types HO428.out BK444.out (by decide)) (fun _ hk => hk.2) (.int .i64 t438)) (fun _ hk => hk.2) (.int .i64 t439)) (fun _ hk => hk.2) (.slice Ao53 t440.length co53)) (fun _ hk => hk.2) (.string t443)) (fun _ h_ => h_.1)))) hb); replace HO432 := am (Kd.R_elder' (rx ((Kd.R_mono (Kd.R_far (p := ⟨gb444, 3, none⟩) (Kd.R_far (p := ⟨gb444, 2, none⟩) (Kd.R_far (p := ⟨gb444, 1, none⟩) (Kd.R_far (p := ⟨gb444, 0, none⟩) (Kd.R_types HO432.out BK444.out (by decide)) (fun _ hk => hk.2) (.int .i64 t438)) (fun _ hk => hk.2) (.int .i64 t439)) (fun _ hk => hk.2) (.slice Ao53 t440.length co53)) (fun _ hk => hk.2) (.string t443)) (fun _ h_ => h_.1)))) (Kd.R_base ho0) hb); replace HO436 := am (Kd.R_below (rx ((Kd.R_mono (Kd.R_far (p := ⟨gb444, 3, none⟩) (Kd.R_far (p := ⟨gb444, 2, none⟩) (Kd.R_far (p := ⟨gb444, 1, none⟩) (Kd.R_far (p := ⟨gb444, 0, none⟩) (Kd.R_types HO436.out BK444.out (by decide)) (fun _ hk => hk.2) (.int .i64 t438)) (fun _ hk => hk.2) (.int .i64 t439)) (fun _ hk => hk.2) (.slice Ao53 t440.length co53)) (fun _ hk => hk.2) (.string t443)) (fun _ h_ => h_.1)))) hb); replace HO442 := am (Kd.R_below (rx ((Kd.R_mono (Kd.R_far (p := ⟨gb444, 3, none⟩) (Kd.R_far (p := ⟨gb444, 2, none⟩) (Kd.R_far (p := ⟨gb444, 1, none⟩) (Kd.R_far (p := ⟨gb444, 0, none⟩) (Kd.R_types HO442.out BK444.out (by decide)) (fun _ hk => hk.2) (.int .i64 t438)) (fun _ hk => hk.2) (.int .i64 t439)) (fun _ hk => hk.2) (.slice Ao53 t440.length co53)) (fun _ hk => hk.2) (.string t443)) (fun _ h_ => h_.1)))) hb); replace BK417 := am (bb hb (zf1 BK417.out NB417_444.out)); replace BK418 := am (bb hb (zf1 BK418.out NB418_444.out)); replace BK437 := am (bb hb (zf1 BK437.out NB437_444.out)); replace BK444 := am (blk_below (g := gb444) (o := .cells #[.int .i64 t438, .int .i64 t439, .slice Ao53 t440.length co53, .string t443] 52 (0, 0)) (by (with_reducible repeat (first | refine blk_drewN ?_ _ | refine blk_drew ?_ | refine blk_alloc ?_ _)); refine blk_put (cs := #[.int .i64 t438, .int .i64 t439, .slice Ao53 t440.length co53, .string (⟨#[]⟩ : ByteArray)]) ?_ 3 _ rfl; (with_reducible repeat (first | refine blk_drewN ?_ _ | refine blk_drew ?_ | refine blk_alloc ?_ _)); refine blk_put (cs := #[.int .i64 t438, .int .i64 t439, .slice none 0 0, .string (⟨#[]⟩ : ByteArray)]) ?_ 2 _ rfl; (with_reducible repeat (first | refine blk_drewN ?_ _ | refine blk_drew ?_ | refine blk_alloc ?_ _)); refine blk_put (cs := #[.int .i64 t438, .int .i64 0, .slice none 0 0, .string (⟨#[]⟩ : ByteArray)]) ?_ 1 _ rfl; (with_reducible repeat (first | refine blk_drewN ?_ _ | refine blk_drew ?_ | refine blk_alloc ?_ _)); refine blk_put (cs := #[.int .i64 0, .int .i64 0, .slice none 0 0, .string (⟨#[]⟩ : ByteArray)]) ?_ 0 _ rfl; (with_reducible repeat (first | refine blk_drewN ?_ _ | refine blk_drew ?_ | refine blk_alloc ?_ _)); exact BK444.out) hb); replace HB := am (below_step (zb4 HB.out GE417.out GE418.out GE437.out GE444.out) hb); (try clear hb); (try clear hb2); (try clear hk); (try clear hi); (try clear ho0)))
   (try simp only [Act.put, List.setIfInBounds_toArray, List.set_cons_zero, List.set_cons_succ])
   go_cut [53] (fun v53 wc => ∃ (kq : Nat) (x53_24 : Bool), v53 = .bool x53_24 ∧ Aside0 (laws_FnExactSnapActs.j0 kq t430 t433 t445 t448 x53_24 l0_0 a1_0 a1_1 l1_2 a1_3 t434 t438 t439 t440 t443 = some r) ∧ Aside0 (kq ≤ k) ∧ Aside0 (Kd.R k67 67 wc w.heap.size (fun k_ => some k_ ≠ (v446 : Value).ownBlock) v431 t430) ∧ Aside0 (Kd.R k67 67 wc w.heap.size (fun k_ => some k_ ≠ (v431 : Value).ownBlock) v446 t445) ∧ Aside0 (Kd.R k63 63 wc w.heap.size (fun _ => True) (.slice Ao42 t434.length co42) t434) ∧ Aside0 (Kd.R (Kd.int .i64) 3 wc w.heap.size (fun _ => True) (.slice Ao53 t440.length co53) t440) ∧ Aside0 (wc.heap[gb417]? = some (.cells #[(.slice A0_0 l0_0.length c0_0)] 24 (0, 0))) ∧ Aside0 (wc.heap[gb418]? = some (.cells #[.int .i64 a1_0, .int .i64 a1_1, (.slice A1_2 l1_2.length c1_2), .string a1_3] 48 (0, 0))) ∧ Aside0 (wc.heap[gb437]? = some (.cells #[(.slice Ao42 t434.length co42)] 30 (0, 0))) ∧ Aside0 (wc.heap[gb444]? = some (.cells #[.int .i64 t438, .int .i64 t439, (.slice Ao53 t440.length co53), .string t443] 52 (0, 0))) ∧ Aside0 (Below w.heap.size w wc))
   case first =>
    have H := HC25.out
    clear HC25
    replace H := Option.bind_eq_some_iff.mp H
    obtain ⟨t449, A560, H⟩ := H
    try dsimp only at H
    have A56 := Aside0.mk A560
    clear A560
    by_cases c57 : t449 = true
    ·subst c57
     have H1 : (laws_FnExactSnapActs.j0 k t430 t433 t445 t448 (t448 != t433) l0_0 a1_0 a1_1 l1_2 a1_3 t434 t438 t439 t440 t443) = some r := by rw [if_pos rfl] at H; exact H
     clear H
     have H := H1
     clear H1
     have H' := Aside0.mk H
     clear H
     obtain ⟨Ao58, co58, eo58⟩ := Kd.R_slice HO447.out
     subst eo58
     obtain ⟨Ao59, co59, eo59⟩ := Kd.R_slice HO432.out
     subst eo59
     go_wp2_with (first | ((with_reducible refine gate_callee (f := 10) rfl ?_); refine goesL_ (some 47) rfl rfl Tryz.func10 (by kernel_rfl) rfl #[.slice Ao58 t445.length co58, .slice Ao59 t430.length co59] rfl zr ?_; (with_reducible refine (laws_eqActS.calls k _ _ t445 _ _ t430 true _ ?side1 ?side2 ?side3 ?side4 A56.out).mono ?_); (case side1 => repeat (first | exact (Kd.R_reads' HO447.out).2.2 | (with_reducible refine Kd.C_alloc ?_ _) | (with_reducible refine Kd.C_drewN ?_ _) | (with_reducible refine Kd.C_drew ?_))); (case side2 => exact (Kd.R_reads' HO447.out).2.1); (case side3 => repeat (first | exact (Kd.R_reads' HO432.out).2.2 | (with_reducible refine Kd.C_alloc ?_ _) | (with_reducible refine Kd.C_drewN ?_ _) | (with_reducible refine Kd.C_drew ?_))); (case side4 => exact (Kd.R_reads' HO432.out).2.1); rintro e w60 ⟨rfl, hb⟩; refine ⟨_, rfl, ?_⟩; replace HO423 := am (Kd.R_below (rx HO423.out) hb); replace HO428 := am (Kd.R_below (rx HO428.out) hb); replace HO432 := am (Kd.R_below (rx HO432.out) hb); replace HO436 := am (Kd.R_below (rx HO436.out) hb); replace HO442 := am (Kd.R_below (rx HO442.out) hb); replace HO447 := am (Kd.R_below (rx HO447.out) hb); replace BK417 := am (bb hb (kx BK417.out)); replace BK418 := am (bb hb (kx BK418.out)); replace BK437 := am (bb hb (kx BK437.out)); replace BK444 := am (bb hb (kx BK444.out)); replace HB := am (below_step (zb4 HB.out GE417.out GE418.out GE437.out GE444.out) hb); (try clear hb); (try clear hb2); (try clear hk); (try clear hi)))
     go_meet
     case rel => exact ⟨_, ((t448 != t433)), (by first | rfl | (simp; done) | (simp [*]; done)), H', ⟨by first | omega | exact Nat.le_refl _⟩, ⟨rx (Kd.R_mono HO432.out (fun _ hk => hk.2))⟩, ⟨rx (Kd.R_mono HO447.out (fun _ hk => hk.2))⟩, ⟨rx (Kd.R_mono HO436.out (fun _ hk => trivial))⟩, ⟨rx (Kd.R_mono HO442.out (fun _ hk => trivial))⟩, ⟨kx BK417.out⟩, ⟨kx BK418.out⟩, ⟨kx BK437.out⟩, ⟨kx BK444.out⟩, ⟨zb4 HB.out GE417.out GE418.out GE437.out GE444.out⟩⟩
    ·replace c57 := Bool.eq_false_iff.mpr c57
     subst c57
     have H1 : (laws_FnExactSnapActs.j0 k t430 t433 t445 t448 true l0_0 a1_0 a1_1 l1_2 a1_3 t434 t438 t439 t440 t443) = some r := by rw [if_neg (show ¬ (false = true) by decide)] at H; exact H
     clear H
     have H := H1
     clear H1
     have H' := Aside0.mk H
     clear H
     obtain ⟨Ao61, co61, eo61⟩ := Kd.R_slice HO447.out
     subst eo61
     obtain ⟨Ao62, co62, eo62⟩ := Kd.R_slice HO432.out
     subst eo62
     go_wp2_with (first | ((with_reducible refine gate_callee (f := 10) rfl ?_); refine goesL_ (some 47) rfl rfl Tryz.func10 (by kernel_rfl) rfl #[.slice Ao61 t445.length co61, .slice Ao62 t430.length co62] rfl zr ?_; (with_reducible refine (laws_eqActS.calls k _ _ t445 _ _ t430 false _ ?side1 ?side2 ?side3 ?side4 A56.out).mono ?_); (case side1 => repeat (first | exact (Kd.R_reads' HO447.out).2.2 | (with_reducible refine Kd.C_alloc ?_ _) | (with_reducible refine Kd.C_drewN ?_ _) | (with_reducible refine Kd.C_drew ?_))); (case side2 => exact (Kd.R_reads' HO447.out).2.1); (case side3 => repeat (first | exact (Kd.R_reads' HO432.out).2.2 | (with_reducible refine Kd.C_alloc ?_ _) | (with_reducible refine Kd.C_drewN ?_ _) | (with_reducible refine Kd.C_drew ?_))); (case side4 => exact (Kd.R_reads' HO432.out).2.1); rintro e w63 ⟨rfl, hb⟩; refine ⟨_, rfl, ?_⟩; replace HO423 := am (Kd.R_below (rx HO423.out) hb); replace HO428 := am (Kd.R_below (rx HO428.out) hb); replace HO432 := am (Kd.R_below (rx HO432.out) hb); replace HO436 := am (Kd.R_below (rx HO436.out) hb); replace HO442 := am (Kd.R_below (rx HO442.out) hb); replace HO447 := am (Kd.R_below (rx HO447.out) hb); replace BK417 := am (bb hb (kx BK417.out)); replace BK418 := am (bb hb (kx BK418.out)); replace BK437 := am (bb hb (kx BK437.out)); replace BK444 := am (bb hb (kx BK444.out)); replace HB := am (below_step (zb4 HB.out GE417.out GE418.out GE437.out GE444.out) hb); (try clear hb); (try clear hb2); (try clear hk); (try clear hi)))
     go_meet
     case rel => exact ⟨_, (true), (by first | rfl | (simp; done) | (simp [*]; done)), H', ⟨by first | omega | exact Nat.le_refl _⟩, ⟨rx (Kd.R_mono HO432.out (fun _ hk => hk.2))⟩, ⟨rx (Kd.R_mono HO447.out (fun _ hk => hk.2))⟩, ⟨rx (Kd.R_mono HO436.out (fun _ hk => trivial))⟩, ⟨rx (Kd.R_mono HO442.out (fun _ hk => trivial))⟩, ⟨kx BK417.out⟩, ⟨kx BK418.out⟩, ⟨kx BK437.out⟩, ⟨kx BK444.out⟩, ⟨zb4 HB.out GE417.out GE418.out GE437.out GE444.out⟩⟩
   case rest =>
    clear HC25
    try clear c1
    try clear c2
    try clear p2
    try clear c4
    try clear c4b0
    try clear c5
    try clear c6
    try clear c7
    try clear c8
    try clear c10
    try clear c11
    try clear c11b0
    try clear c14
    try clear c20
    try clear c21
    try clear c22
    try clear c23
    try clear c28
    try clear c43
    try clear c44
    try clear c49
    try clear c50
    try clear c51
    try clear c57
    try clear hcz15_0
    try clear hcz17_0
    try clear hcz17_1
    try clear hcz17_2
    try clear hcz17_3
    try clear hcz29_0
    try clear hcz31_0
    try clear hcz31_1
    try clear hcz31_2
    try clear hcz31_3
    try clear hcz39_0
    try clear hcz45_0
    try clear hcz46_0
    try clear hcz46_1
    try clear hcz46_2
    try clear hcz46_3
    try clear hcz52_0
    try clear hcz52_1
    try clear hcz52_2
    try clear hcz52_3
    try clear hcz54_0
    try clear hcz8_0
    try clear hfz15_0
    try clear hfz17_0
    try clear hfz17_1
    try clear hfz17_2
    try clear hfz17_3
    try clear hfz29_0
    try clear hfz31_0
    try clear hfz31_1
    try clear hfz31_2
    try clear hfz31_3
    try clear hfz39_0
    try clear hfz45_0
    try clear hfz46_0
    try clear hfz46_1
    try clear hfz46_2
    try clear hfz46_3
    try clear hfz52_0
    try clear hfz52_1
    try clear hfz52_2
    try clear hfz52_3
    try clear hfz54_0
    try clear hfz8_0
    obtain ⟨kq, x53_24, rfl, HA, HJ24, HO_6, HO_10, HO_438000, HO_445002, BK417, BK418, BK437, BK444, HB⟩ := hcut
    cases kq with
    | zero => exact absurd HA.out (by simp [laws_FnExactSnapActs.j0])
    | succ kj24 =>
     have H := HA.out
     clear HA
     simp only [laws_FnExactSnapActs.j0] at H
     by_cases c64 : x53_24 = true
     ·subst c64
      have H1 : (some false) = some r := by rw [if_pos rfl] at H; exact H
      clear H
      have H := H1
      clear H1
      exact absurd ((Option.some.inj H).trans HLT.out) (by decide)
     ·replace c64 := Bool.eq_false_iff.mpr c64
      subst c64
      have H1 : ((laws_toDisk.f kj24 l0_0).bind fun t450 => ((laws_eqDisk.f kj24 t434 t450).bind fun t453 => (if t453 = true then ((laws_toSnap.f kj24 a1_0 a1_1 l1_2 a1_3).bind fun bt454 => ((laws_eqSnap.f kj24 t438 t439 t440 t443 bt454.1 bt454.2.1 bt454.2.2.1 bt454.2.2.2).bind fun t460 => (if t460 = true then ((laws_markDisk.f kj24 t434 1).bind fun bt461 => ((laws_markSnap.f kj24 t438 t439 t440 t443 bt461.1).bind fun bt463 => (if bt463.1 < 0 then (laws_FnExactSnapActs.j1 kj24 t430 t433 t445 true l0_0 a1_0 a1_1 l1_2 a1_3) else ((laws_eqActS.f kj24 t445 t430).bind fun t465 => (if t465 = true then (laws_FnExactSnapActs.j1 kj24 t430 t433 t445 (t448 != t433) l0_0 a1_0 a1_1 l1_2 a1_3) else (laws_FnExactSnapActs.j1 kj24 t430 t433 t445 true l0_0 a1_0 a1_1 l1_2 a1_3)))))) else (some false)))) else (some false)))) = some r := by rw [if_neg (show ¬ (false = true) by decide)] at H; exact H
      clear H
      have H := H1
      clear H1
      replace H := Option.bind_eq_some_iff.mp H
      obtain ⟨t450, A650, H⟩ := H
      try dsimp only at H
      have A65 := Aside0.mk A650
      clear A650
      replace H := Option.bind_eq_some_iff.mp H
      obtain ⟨t453, A660, H⟩ := H
      try dsimp only at H
      have A66 := Aside0.mk A660
      clear A660
      by_cases c67 : t453 = true
      ·subst c67
       have H1 : ((laws_toSnap.f kj24 a1_0 a1_1 l1_2 a1_3).bind fun bt454 => ((laws_eqSnap.f kj24 t438 t439 t440 t443 bt454.1 bt454.2.1 bt454.2.2.1 bt454.2.2.2).bind fun t460 => (if t460 = true then ((laws_markDisk.f kj24 t434 1).bind fun bt461 => ((laws_markSnap.f kj24 t438 t439 t440 t443 bt461.1).bind fun bt463 => (if bt463.1 < 0 then (laws_FnExactSnapActs.j1 kj24 t430 t433 t445 true l0_0 a1_0 a1_1 l1_2 a1_3) else ((laws_eqActS.f kj24 t445 t430).bind fun t465 => (if t465 = true then (laws_FnExactSnapActs.j1 kj24 t430 t433 t445 (t448 != t433) l0_0 a1_0 a1_1 l1_2 a1_3) else (laws_FnExactSnapActs.j1 kj24 t430 t433 t445 true l0_0 a1_0 a1_1 l1_2 a1_3)))))) else (some false)))) = some r := by rw [if_pos rfl] at H; exact H
       clear H
       have H := H1
       clear H1
       replace H := Option.bind_eq_some_iff.mp H
       obtain ⟨⟨t454, t455, t456, t459⟩, A680, H⟩ := H
       try dsimp only at H
       have A68 := Aside0.mk A680
       clear A680
       replace H := Option.bind_eq_some_iff.mp H
       obtain ⟨t460, A690, H⟩ := H
       try dsimp only at H
       have A69 := Aside0.mk A690
       clear A690
       by_cases c70 : t460 = true
       ·subst c70
        have H1 : ((laws_markDisk.f kj24 t434 1).bind fun bt461 => ((laws_markSnap.f kj24 t438 t439 t440 t443 bt461.1).bind fun bt463 => (if bt463.1 < 0 then (laws_FnExactSnapActs.j1 kj24 t430 t433 t445 true l0_0 a1_0 a1_1 l1_2 a1_3) else ((laws_eqActS.f kj24 t445 t430).bind fun t465 => (if t465 = true then (laws_FnExactSnapActs.j1 kj24 t430 t433 t445 (t448 != t433) l0_0 a1_0 a1_1 l1_2 a1_3) else (laws_FnExactSnapActs.j1 kj24 t430 t433 t445 true l0_0 a1_0 a1_1 l1_2 a1_3)))))) = some r := by rw [if_pos rfl] at H; exact H
        clear H
        have H := H1
        clear H1
        replace H := Option.bind_eq_some_iff.mp H
        obtain ⟨⟨t461, t462⟩, A710, H⟩ := H
        try dsimp only at H
        have A71 := Aside0.mk A710
        clear A710
        replace H := Option.bind_eq_some_iff.mp H
        obtain ⟨⟨t463, t464⟩, A720, H⟩ := H
        try dsimp only at H
        have A72 := Aside0.mk A720
        clear A720
        have HC73 := Aside0.mk H
        clear H
        try go_wp2
        replace HO_6 := am (Kd.R_drew HO_6.out)
        replace HO_10 := am (Kd.R_drew HO_10.out)
        replace HO_438000 := am (Kd.R_drew HO_438000.out)
        replace HO_445002 := am (Kd.R_drew HO_445002.out)
        replace BK417 := am (blk_drew BK417.out)
        replace BK418 := am (blk_drew BK418.out)
        replace BK437 := am (blk_drew BK437.out)
        replace BK444 := am (blk_drew BK444.out)
        replace HB := am (below_drew1 HB.out)
        refine start_ (n := 5) (S := fun w' => w'.cell? ⟨gb437, 0, none⟩ = some (.slice Ao42 t434.length co42) ∧ w'.cell? ⟨gb417, 0, none⟩ = some (.slice A0_0 l0_0.length c0_0)) (ds := []) #[false, false, false, false, false] (by kernel_rfl) rfl rfl ⟨ct BK437.out 0, ct BK417.out 0⟩ (fun hHeld => ?_)
        generalize wc.drew = w74 at HO_6 HO_10 HO_438000 HO_445002 BK417 BK418 BK437 BK444 HB hHeld ⊢
        refine take_ (i := 0) (N := some 54) (v := ?_) (a' := ?_) #[true, false, false, false, false] rfl rfl (by kernel_rfl) (fun _ _ _ h => h) (Or.inl ⟨by rfl, ?_⟩) hHeld ?_ ?_
        rotate_left
        ·rintro w' ⟨s0, s1⟩
         go_simp
         with_reducible rfl
        rotate_left
        ·simp only [Act.put, List.setIfInBounds_toArray, List.set_cons_zero, List.set_cons_succ, i64_w, i32_w]
         rfl
        refine take_ (i := 1) (N := some 55) (v := ?_) (a' := ?_) #[true, true, false, false, false] rfl rfl (by kernel_rfl) (fun _ _ _ h => h) (Or.inl ⟨by rfl, ?_⟩) hHeld ?_ ?_
        rotate_left
        ·rintro w' ⟨s0, s1⟩
         go_simp
         with_reducible rfl
        rotate_left
        ·simp only [Act.put, List.setIfInBounds_toArray, List.set_cons_zero, List.set_cons_succ, i64_w, i32_w]
         rfl
        refine one_ (i := 2) (N := some 56) #[true, true, true, false, false] rfl rfl (by kernel_rfl) (by decide) (fun K hK => ?_)
        refine goes_ Tryz.func8 (by kernel_rfl) rfl #[.agg #[.slice A0_0 l0_0.length c0_0]] (by rfl) rfl rfl zr ?_
        with_reducible refine (laws_toDisk.calls kj24 _ _ l0_0 t450 _ ?side1 ?side2 A65.out).mono ?_
        (case side1 => repeat (first | exact (Kd.C_below HR0_0.out HB.out) | (with_reducible refine Kd.C_alloc ?_ _) | (with_reducible refine Kd.C_drewN ?_ _) | (with_reducible refine Kd.C_drew ?_)))
        (case side2 => exact HC0_0.out)
        rintro e w75 ⟨v451, rfl, ho0, hb⟩
        refine ⟨_, rfl, ?_⟩
        have HO452 := am (Kd.R_lower (Kd.R_new' ho0 (Kd.R_lt (rx HO_438000.out))) (below_size (zb4 HB.out GE417.out GE418.out GE437.out GE444.out)))
        replace HO_6 := am (Kd.R_below (rx HO_6.out) hb)
        replace HO_10 := am (Kd.R_below (rx HO_10.out) hb)
        replace HO_438000 := am (Kd.R_elder' (rx HO_438000.out) (Kd.R_base ho0) hb)
        replace HO_445002 := am (Kd.R_below (rx HO_445002.out) hb)
        replace BK417 := am (bb hb (kx BK417.out))
        replace BK418 := am (bb hb (kx BK418.out))
        replace BK437 := am (bb hb (kx BK437.out))
        replace BK444 := am (bb hb (kx BK444.out))
        replace HB := am (below_step (zb4 HB.out GE417.out GE418.out GE437.out GE444.out) hb)
        try clear hb
        try clear hb2
        try clear hk
        try clear hi
        try clear ho0
        obtain ⟨Ao76, co76, eo76⟩ := Kd.R_slice HO452.out
        (first | subst eo76 | (injection eo76 with f1_ f2_ f3_; have f4_ := f1_.symm; have f5_ := f3_.symm; clear f1_ f2_ f3_; subst f4_; subst f5_))
        refine hK.out _ _ ⟨ct BK437.out 0, ct BK417.out 0⟩ (fun hHeld => ?_)
        clear hK K
        refine norm_ (a' := ?_) ?_ ?_
        rotate_left
        ·show Act.put _ (some 56) _ = _
         simp only [Act.put, List.setIfInBounds_toArray, List.set_cons_zero, List.set_cons_succ, i64_w, i32_w]
         rfl
        refine one_ (i := 3) (N := some 57) #[true, true, true, true, false] rfl rfl (by kernel_rfl) (by decide) (fun K hK => ?_)
        refine goes_ Tryz.func11 (by kernel_rfl) rfl #[.agg #[.slice Ao42 t434.length co42], .agg #[.slice Ao76 t450.length co76]] (by rfl) rfl rfl zr ?_
        with_reducible refine (laws_eqDisk.calls kj24 _ _ t434 _ _ t450 true _ ?side1 ?side2 ?side3 ?side4 A66.out).mono ?_
        (case side1 => repeat (first | exact (Kd.R_reads' HO_438000.out).2.2 | (with_reducible refine Kd.C_alloc ?_ _) | (with_reducible refine Kd.C_drewN ?_ _) | (with_reducible refine Kd.C_drew ?_)))
        (case side2 => exact (Kd.R_reads' HO_438000.out).2.1)
        (case side3 => repeat (first | exact (Kd.R_reads' HO452.out).2.2 | (with_reducible refine Kd.C_alloc ?_ _) | (with_reducible refine Kd.C_drewN ?_ _) | (with_reducible refine Kd.C_drew ?_)))
        (case side4 => exact (Kd.R_reads' HO452.out).2.1)
        rintro e w77 ⟨rfl, hb⟩
        refine ⟨_, rfl, ?_⟩
        replace HO_6 := am (Kd.R_below (rx HO_6.out) hb)
        replace HO_10 := am (Kd.R_below (rx HO_10.out) hb)
        replace HO_438000 := am (Kd.R_below (rx HO_438000.out) hb)
        replace HO_445002 := am (Kd.R_below (rx HO_445002.out) hb)
        replace HO452 := am (Kd.R_below (rx HO452.out) hb)
        replace BK417 := am (bb hb (kx BK417.out))
        replace BK418 := am (bb hb (kx BK418.out))
        replace BK437 := am (bb hb (kx BK437.out))
        replace BK444 := am (bb hb (kx BK444.out))
        replace HB := am (below_step (zb4 HB.out GE417.out GE418.out GE437.out GE444.out) hb)
        try clear hb
        try clear hb2
        try clear hk
        try clear hi
        refine hK.out _ _ ⟨ct BK437.out 0, ct BK417.out 0⟩ (fun hHeld => ?_)
        clear hK K
        refine norm_ (a' := ?_) ?_ ?_
        rotate_left
        ·show Act.put _ (some 57) _ = _
         simp only [Act.put, List.setIfInBounds_toArray, List.set_cons_zero, List.set_cons_succ, i64_w, i32_w]
         rfl
        refine pure_ (i := 4) (N := some 58) (v := ?_) (a' := ?_) #[true, true, true, true, true] rfl rfl (by kernel_rfl) (fun _ _ _ h => h) (Or.inl ⟨by rfl, ?_⟩) ?_ ?_
        rotate_left
        ·intro w'
         go_simp
         with_reducible rfl
        rotate_left
        ·simp only [Act.put, List.setIfInBounds_toArray, List.set_cons_zero, List.set_cons_succ, i64_w, i32_w]
         rfl
        refine done_ (by kernel_rfl) ?_
        try go_wp2
        replace HO_6 := am (Kd.R_drew HO_6.out)
        replace HO_10 := am (Kd.R_drew HO_10.out)
        replace HO_438000 := am (Kd.R_drew HO_438000.out)
        replace HO_445002 := am (Kd.R_drew HO_445002.out)
        replace HO452 := am (Kd.R_drew HO452.out)
        replace BK417 := am (blk_drew BK417.out)
        replace BK418 := am (blk_drew BK418.out)
        replace BK437 := am (blk_drew BK437.out)
        replace BK444 := am (blk_drew BK444.out)
        replace HB := am (below_drew1 HB.out)
        refine start_ (n := 5) (S := fun w' => w'.cell? ⟨gb444, 0, none⟩ = some (.int .i64 t438) ∧ w'.cell? ⟨gb444, 1, none⟩ = some (.int .i64 t439) ∧ w'.cell? ⟨gb444, 2, none⟩ = some (.slice Ao53 t440.length co53) ∧ w'.cell? ⟨gb444, 3, none⟩ = some (.string t443) ∧ w'.cell? ⟨gb418, 0, none⟩ = some (.int .i64 a1_0) ∧ w'.cell? ⟨gb418, 1, none⟩ = some (.int .i64 a1_1) ∧ w'.cell? ⟨gb418, 2, none⟩ = some (.slice A1_2 l1_2.length c1_2) ∧ w'.cell? ⟨gb418, 3, none⟩ = some (.string a1_3)) (ds := []) #[false, false, false, false, false] (by kernel_rfl) rfl rfl ⟨ct BK444.out 0, ct BK444.out 1, ct BK444.out 2, ct BK444.out 3, ct BK418.out 0, ct BK418.out 1, ct BK418.out 2, ct BK418.out 3⟩ (fun hHeld => ?_)
        generalize w77.drew = w78 at HO_6 HO_10 HO_438000 HO_445002 HO452 BK417 BK418 BK437 BK444 HB hHeld ⊢
        refine take_ (i := 0) (N := some 59) (v := ?_) (a' := ?_) #[true, false, false, false, false] rfl rfl (by kernel_rfl) (fun _ _ _ h => h) (Or.inl ⟨by rfl, ?_⟩) hHeld ?_ ?_
        rotate_left
        ·rintro w' ⟨s0, s1, s2, s3, s4, s5, s6, s7⟩
         go_simp
         with_reducible rfl
        rotate_left
        ·simp only [Act.put, List.setIfInBounds_toArray, List.set_cons_zero, List.set_cons_succ, i64_w, i32_w]
         rfl
        refine take_ (i := 1) (N := some 60) (v := ?_) (a' := ?_) #[true, true, false, false, false] rfl rfl (by kernel_rfl) (fun _ _ _ h => h) (Or.inl ⟨by rfl, ?_⟩) hHeld ?_ ?_
        rotate_left
        ·rintro w' ⟨s0, s1, s2, s3, s4, s5, s6, s7⟩
         go_simp
         with_reducible rfl
        rotate_left
        ·simp only [Act.put, List.setIfInBounds_toArray, List.set_cons_zero, List.set_cons_succ, i64_w, i32_w]
         rfl
        refine one_ (i := 2) (N := some 61) #[true, true, true, false, false] rfl rfl (by kernel_rfl) (by decide) (fun K hK => ?_)
        refine goes_ Tryz.func22 (by kernel_rfl) rfl #[.agg #[.int .i64 a1_0, .int .i64 a1_1, .slice A1_2 l1_2.length c1_2, .string a1_3]] (by rfl) rfl rfl zr ?_
        with_reducible refine (laws_toSnap.calls kj24 a1_0 a1_1 _ _ l1_2 a1_3 t454 t455 t456 t459 _ ?side1 ?side2 A68.out).mono ?_
        (case side1 => repeat (first | exact (Kd.C_below HR1_2.out HB.out) | (with_reducible refine Kd.C_alloc ?_ _) | (with_reducible refine Kd.C_drewN ?_ _) | (with_reducible refine Kd.C_drew ?_)))
        (case side2 => exact HC1_2.out)
        rintro e w79 ⟨v457, rfl, ho0, hb⟩
        refine ⟨_, rfl, ?_⟩
        have HO458 := am (Kd.R_lower (Kd.R_new' ho0 (Kd.R_lt (rx HO_445002.out))) (below_size (zb4 HB.out GE417.out GE418.out GE437.out GE444.out)))
        replace HO_6 := am (Kd.R_below (rx HO_6.out) hb)
        replace HO_10 := am (Kd.R_below (rx HO_10.out) hb)
        replace HO_438000 := am (Kd.R_below (rx HO_438000.out) hb)
        replace HO_445002 := am (Kd.R_elder' (rx HO_445002.out) (Kd.R_base ho0) hb)
        replace HO452 := am (Kd.R_below (rx HO452.out) hb)
        replace BK417 := am (bb hb (kx BK417.out))
        replace BK418 := am (bb hb (kx BK418.out))
        replace BK437 := am (bb hb (kx BK437.out))
        replace BK444 := am (bb hb (kx BK444.out))
        replace HB := am (below_step (zb4 HB.out GE417.out GE418.out GE437.out GE444.out) hb)
        try clear hb
        try clear hb2
        try clear hk
        try clear hi
        try clear ho0
        obtain ⟨Ao80, co80, eo80⟩ := Kd.R_slice HO458.out
        (first | subst eo80 | (injection eo80 with f1_ f2_ f3_; have f4_ := f1_.symm; have f5_ := f3_.symm; clear f1_ f2_ f3_; subst f4_; subst f5_))
        refine hK.out _ _ ⟨ct BK444.out 0, ct BK444.out 1, ct BK444.out 2, ct BK444.out 3, ct BK418.out 0, ct BK418.out 1, ct BK418.out 2, ct BK418.out 3⟩ (fun hHeld => ?_)
        clear hK K
        refine norm_ (a' := ?_) ?_ ?_
        rotate_left
        ·show Act.put _ (some 61) _ = _
         simp only [Act.put, List.setIfInBounds_toArray, List.set_cons_zero, List.set_cons_succ, i64_w, i32_w]
         rfl
        refine one_ (i := 3) (N := some 62) #[true, true, true, true, false] rfl rfl (by kernel_rfl) (by decide) (fun K hK => ?_)
        refine goes_ Tryz.func24 (by kernel_rfl) rfl #[.agg #[.int .i64 t438, .int .i64 t439, .slice Ao53 t440.length co53, .string t443], .agg #[.int .i64 t454, .int .i64 t455, .slice Ao80 t456.length co80, .string t459]] (by rfl) rfl rfl zr ?_
        with_reducible refine (laws_eqSnap.calls kj24 t438 t439 _ _ t440 t443 t454 t455 _ _ t456 t459 true _ ?side1 ?side2 ?side3 ?side4 A69.out).mono ?_
        (case side1 => repeat (first | exact (Kd.R_reads' HO_445002.out).2.2 | (with_reducible refine Kd.C_alloc ?_ _) | (with_reducible refine Kd.C_drewN ?_ _) | (with_reducible refine Kd.C_drew ?_)))
        (case side2 => exact (Kd.R_reads' HO_445002.out).2.1)
        (case side3 => repeat (first | exact (Kd.R_reads' HO458.out).2.2 | (with_reducible refine Kd.C_alloc ?_ _) | (with_reducible refine Kd.C_drewN ?_ _) | (with_reducible refine Kd.C_drew ?_)))
        (case side4 => exact (Kd.R_reads' HO458.out).2.1)
        rintro e w81 ⟨rfl, hb⟩
        refine ⟨_, rfl, ?_⟩
        replace HO_6 := am (Kd.R_below (rx HO_6.out) hb)
        replace HO_10 := am (Kd.R_below (rx HO_10.out) hb)
        replace HO_438000 := am (Kd.R_below (rx HO_438000.out) hb)
        replace HO_445002 := am (Kd.R_below (rx HO_445002.out) hb)
        replace HO452 := am (Kd.R_below (rx HO452.out) hb)
        replace HO458 := am (Kd.R_below (rx HO458.out) hb)
        replace BK417 := am (bb hb (kx BK417.out))
        replace BK418 := am (bb hb (kx BK418.out))
        replace BK437 := am (bb hb (kx BK437.out))
        replace BK444 := am (bb hb (kx BK444.out))
        replace HB := am (below_step (zb4 HB.out GE417.out GE418.out GE437.out GE444.out) hb)
        try clear hb
        try clear hb2
        try clear hk
        try clear hi
        refine hK.out _ _ ⟨ct BK444.out 0, ct BK444.out 1, ct BK444.out 2, ct BK444.out 3, ct BK418.out 0, ct BK418.out 1, ct BK418.out 2, ct BK418.out 3⟩ (fun hHeld => ?_)
        clear hK K
        refine norm_ (a' := ?_) ?_ ?_
        rotate_left
        ·show Act.put _ (some 62) _ = _
         simp only [Act.put, List.setIfInBounds_toArray, List.set_cons_zero, List.set_cons_succ, i64_w, i32_w]
         rfl
        refine pure_ (i := 4) (N := some 63) (v := ?_) (a' := ?_) #[true, true, true, true, true] rfl rfl (by kernel_rfl) (fun _ _ _ h => h) (Or.inl ⟨by rfl, ?_⟩) ?_ ?_
        rotate_left
        ·intro w'
         go_simp
         with_reducible rfl
        rotate_left
        ·simp only [Act.put, List.setIfInBounds_toArray, List.set_cons_zero, List.set_cons_succ, i64_w, i32_w]
         rfl
        refine done_ (by kernel_rfl) ?_
        have hnb82 := NB437_417.out
        have hnc82 := NB417_437.out
        have hnb83 := NB437_418.out
        have hnc83 := NB418_437.out
        have hnb84 := NB437_444.out
        have hnc84 := NB444_437.out
        obtain ⟨hcz85_0, hfz85_0⟩ := zc1 BK437.out
        go_upto_region 21 with (first | ((with_reducible refine gate_callee (f := 12) rfl ?_); refine goesL_ (some 66) rfl rfl Tryz.func12 (by kernel_rfl) rfl #[.agg #[.slice Ao42 t434.length co42], .int .i64 1] rfl zr ?_; (with_reducible refine (laws_markDisk.calls kj24 (fun k_ => some k_ = (.slice Ao42 t434.length co42 : Value).ownBlock) (.slice Ao42 t434.length co42) t434 1 t461 t462 w _ ?side1 ?side2 A71.out).mono ?_); (case side1 => repeat (first | (with_reducible first | exact HB.out | apply below_alloc | apply pw_below_drewN | apply below_drew1 | refine below_set ?_ GE417.out | refine below_set ?_ GE418.out | refine below_set ?_ GE437.out | refine below_set ?_ GE444.out) | exact HB.out)); (case side2 => exact Kd.R_tight rfl HO_438000.out); rintro e w86 ⟨rfl, hy0, hb, hkp⟩; refine ⟨_, rfl, ?_⟩; replace HO_6 := am (Kd.R_mono (ok' := fun k_ => some k_ ≠ (v446 : Value).ownBlock) (Kd.R_keptB ((Kd.R_apart' HO_6.out (Kd.R_typed HO_438000.out) (by decide))) hkp (fun k_ hk_ hs_ => (hk_.2) hs_)) (fun k_ hk_ => hk_.1.1)); replace HO_10 := am (Kd.R_mono (ok' := fun k_ => some k_ ≠ (v431 : Value).ownBlock) (Kd.R_keptB ((Kd.R_apart' HO_10.out (Kd.R_typed HO_438000.out) (by decide))) hkp (fun k_ hk_ hs_ => (hk_.2) hs_)) (fun k_ hk_ => hk_.1.1)); replace HO_445002 := am (Kd.R_mono (ok' := fun k_ => some k_ ≠ (.slice Ao80 t456.length co80 : Value).ownBlock) (Kd.R_keptB ((Kd.R_apart' HO_445002.out (Kd.R_typed HO_438000.out) (by decide))) hkp (fun k_ hk_ hs_ => (hk_.2) hs_)) (fun k_ hk_ => hk_.1.1.2)); replace BK417 := am (blk_kept (kx BK417.out) hkp (fun hs_ => (fun e_ => (Kd.R_ne HO_438000.out BK417.out (by decide)) e_) hs_)); replace BK418 := am (blk_kept (kx BK418.out) hkp (fun hs_ => (fun e_ => (Kd.R_ne HO_438000.out BK418.out (by decide)) e_) hs_)); replace BK437 := am (blk_kept (kx BK437.out) hkp (fun hs_ => (fun e_ => (Kd.R_ne HO_438000.out BK437.out (by decide)) e_) hs_)); replace BK444 := am (blk_kept (kx BK444.out) hkp (fun hs_ => (fun e_ => (Kd.R_ne HO_438000.out BK444.out (by decide)) e_) hs_)); replace HO452 := am (Kd.R_mono (ok' := fun k_ => some k_ ≠ (.slice Ao42 t434.length co42 : Value).ownBlock) (Kd.R_keptB (HO452.out) hkp (fun k_ hk_ hs_ => (hk_.2) hs_)) (fun k_ hk_ => hk_.1.2)); replace HO458 := am (Kd.R_mono (ok' := fun k_ => some k_ ≠ (.slice Ao53 t440.length co53 : Value).ownBlock) (Kd.R_keptB ((Kd.R_apart' HO458.out (Kd.R_typed HO_438000.out) (by decide))) hkp (fun k_ hk_ hs_ => (hk_.2) hs_)) (fun k_ hk_ => hk_.1.1.2)); replace HO_438000 := am (Kd.R_reok rfl hy0 (fun k_ e_ => HO_438000.out.1 k_ e_)); replace HB := am (hb); (try clear hb); (try clear hkp); (try clear hy0); have hnb87 := NB444_417.out; have hnc87 := NB417_444.out; have hnb88 := NB444_418.out; have hnc88 := NB418_444.out; obtain ⟨hcz89_0, hcz89_1, hcz89_2, hcz89_3, hfz89_0, hfz89_1, hfz89_2, hfz89_3⟩ := zc4 BK444.out) | ((with_reducible refine gate_callee (f := 25) rfl ?_); refine goesL_ (some 69) rfl rfl Tryz.func25 (by kernel_rfl) rfl #[.agg #[.int .i64 t438, .int .i64 t439, .slice Ao53 t440.length co53, .string t443], .int .i64 t461] rfl zr ?_; (with_reducible refine (laws_markSnap.calls kj24 t438 t439 (fun k_ => some k_ = (.slice Ao53 t440.length co53 : Value).ownBlock) (.slice Ao53 t440.length co53) t440 t443 t461 t463 t464 w _ ?side1 ?side2 A72.out).mono ?_); (case side1 => repeat (first | (with_reducible first | exact HB.out | apply below_alloc | apply pw_below_drewN | apply below_drew1 | refine below_set ?_ GE417.out | refine below_set ?_ GE418.out | refine below_set ?_ GE437.out | refine below_set ?_ GE444.out) | exact HB.out)); (case side2 => exact Kd.R_tight rfl HO_445002.out); rintro e w90 ⟨rfl, hy0, hb, hkp⟩; refine ⟨_, rfl, ?_⟩; replace HO_6 := am (Kd.R_mono (ok' := fun k_ => some k_ ≠ (v446 : Value).ownBlock) (Kd.R_keptB ((Kd.R_apart' HO_6.out (Kd.R_typed HO_445002.out) (by decide))) hkp (fun k_ hk_ hs_ => (hk_.2) hs_)) (fun k_ hk_ => hk_.1.1)); replace HO_10 := am (Kd.R_mono (ok' := fun k_ => some k_ ≠ (v431 : Value).ownBlock) (Kd.R_keptB ((Kd.R_apart' HO_10.out (Kd.R_typed HO_445002.out) (by decide))) hkp (fun k_ hk_ hs_ => (hk_.2) hs_)) (fun k_ hk_ => hk_.1.1)); replace HO_438000 := am (Kd.R_mono (ok' := fun k_ => some k_ ≠ (.slice Ao76 t450.length co76 : Value).ownBlock) (Kd.R_keptB ((Kd.R_apart' HO_438000.out (Kd.R_typed HO_445002.out) (by decide))) hkp (fun k_ hk_ hs_ => (hk_.2) hs_)) (fun k_ hk_ => hk_.1.1.2)); replace BK417 := am (blk_kept (kx BK417.out) hkp (fun hs_ => (fun e_ => (Kd.R_ne HO_445002.out BK417.out (by decide)) e_) hs_)); replace BK418 := am (blk_kept (kx BK418.out) hkp (fun hs_ => (fun e_ => (Kd.R_ne HO_445002.out BK418.out (by decide)) e_) hs_)); replace BK437 := am (blk_kept (kx BK437.out) hkp (fun hs_ => (fun e_ => (Kd.R_ne HO_445002.out BK437.out (by decide)) e_) hs_)); replace BK444 := am (blk_kept (kx BK444.out) hkp (fun hs_ => (fun e_ => (Kd.R_ne HO_445002.out BK444.out (by decide)) e_) hs_)); replace HO452 := am (Kd.R_mono (ok' := fun k_ => some k_ ≠ (.slice Ao42 t434.length co42 : Value).ownBlock) (Kd.R_keptB ((Kd.R_apart' HO452.out (Kd.R_typed HO_445002.out) (by decide))) hkp (fun k_ hk_ hs_ => (hk_.2) hs_)) (fun k_ hk_ => hk_.1.1)); replace HO_445002 := am (Kd.R_reok rfl hy0 (fun k_ e_ => HO_445002.out.1 k_ e_)); replace HO458 := am (Kd.R_mono (ok' := fun k_ => some k_ ≠ (.slice Ao53 t440.length co53 : Value).ownBlock) (Kd.R_keptB (HO458.out) hkp (fun k_ hk_ hs_ => (hk_) hs_)) (fun k_ hk_ => hk_.1)); replace HB := am (hb); (try clear hb); (try clear hkp); (try clear hy0)))
        (try simp only [Act.put, List.setIfInBounds_toArray, List.set_cons_zero, List.set_cons_succ])
        go_cut [82] (fun v82 wc => ∃ (kq : Nat) (x82_72 : Bool), v82 = .bool x82_72 ∧ Aside0 (laws_FnExactSnapActs.j1 kq t430 t433 t445 x82_72 l0_0 a1_0 a1_1 l1_2 a1_3 = some r) ∧ Aside0 (kq ≤ kj24) ∧ Aside0 (Kd.R k67 67 wc w.heap.size (fun k_ => some k_ ≠ (v446 : Value).ownBlock) v431 t430) ∧ Aside0 (Kd.R k67 67 wc w.heap.size (fun k_ => some k_ ≠ (v431 : Value).ownBlock) v446 t445) ∧ Aside0 (Kd.R k63 63 wc w.heap.size (fun _ => True) (.slice Ao42 t434.length co42) t462) ∧ Aside0 (Kd.R (Kd.int .i64) 3 wc w.heap.size (fun _ => True) (.slice Ao53 t440.length co53) t464) ∧ Aside0 (wc.heap[gb417]? = some (.cells #[(.slice A0_0 l0_0.length c0_0)] 24 (0, 0))) ∧ Aside0 (wc.heap[gb418]? = some (.cells #[.int .i64 a1_0, .int .i64 a1_1, (.slice A1_2 l1_2.length c1_2), .string a1_3] 48 (0, 0))) ∧ Aside0 (wc.heap[gb437]? = some (.cells #[(.slice Ao42 t434.length co42)] 30 (0, 0))) ∧ Aside0 (wc.heap[gb444]? = some (.cells #[.int .i64 t438, .int .i64 t439, (.slice Ao53 t440.length co53), .string t443] 52 (0, 0))) ∧ Aside0 (Below w.heap.size w wc))
        case first =>
         have H := HC73.out
         clear HC73
         by_cases c91 : t463 < 0
         ·rw [if_pos c91] at H
          have c91b0 : decide (t463 < 0) = true := decide_eq_true c91
          clear c91
          (first | rw [c91b0] | (simp only [i64_w, i32_w]; rw [c91b0]) | skip)
          have H' := Aside0.mk H
          clear H
          go_wp2
          go_meet
          case rel => exact ⟨_, (true), (by first | rfl | (simp; done) | (simp [*]; done)), H', ⟨by have := HJ24.out; first | omega | exact Nat.le_refl _⟩, ⟨rx HO_6.out⟩, ⟨rx HO_10.out⟩, ⟨rx (Kd.R_mono HO_438000.out (fun _ hk => trivial))⟩, ⟨rx (Kd.R_mono HO_445002.out (fun _ hk => trivial))⟩, ⟨kx BK417.out⟩, ⟨kx BK418.out⟩, ⟨kx BK437.out⟩, ⟨kx BK444.out⟩, ⟨zb4 HB.out GE417.out GE418.out GE437.out GE444.out⟩⟩
         ·rw [if_neg c91] at H
          have c91b0 : decide (t463 < 0) = false := decide_eq_false c91
          clear c91
          (first | rw [c91b0] | (simp only [i64_w, i32_w]; rw [c91b0]) | skip)
          replace H := Option.bind_eq_some_iff.mp H
          obtain ⟨t465, A920, H⟩ := H
          try dsimp only at H
          have A92 := Aside0.mk A920
          clear A920
          by_cases c93 : t465 = true
          ·subst c93
           have H1 : (laws_FnExactSnapActs.j1 kj24 t430 t433 t445 (t448 != t433) l0_0 a1_0 a1_1 l1_2 a1_3) = some r := by rw [if_pos rfl] at H; exact H
           clear H
           have H := H1
           clear H1
           have H' := Aside0.mk H
           clear H
           obtain ⟨Ao94, co94, eo94⟩ := Kd.R_slice HO_10.out
           subst eo94
           obtain ⟨Ao95, co95, eo95⟩ := Kd.R_slice HO_6.out
           subst eo95
           go_wp2_with (first | (go_at_call 10; (with_reducible refine (laws_eqActS.calls kj24 _ _ t445 _ _ t430 true _ ?side1 ?side2 ?side3 ?side4 A92.out).mono ?_); (case side1 => repeat (first | exact (Kd.R_reads' HO_10.out).2.2 | (with_reducible refine Kd.C_alloc ?_ _) | (with_reducible refine Kd.C_drewN ?_ _) | (with_reducible refine Kd.C_drew ?_))); (case side2 => exact (Kd.R_reads' HO_10.out).2.1); (case side3 => repeat (first | exact (Kd.R_reads' HO_6.out).2.2 | (with_reducible refine Kd.C_alloc ?_ _) | (with_reducible refine Kd.C_drewN ?_ _) | (with_reducible refine Kd.C_drew ?_))); (case side4 => exact (Kd.R_reads' HO_6.out).2.1); rintro e w96 ⟨rfl, hb⟩; replace HO_6 := am (Kd.R_below (rx HO_6.out) hb); replace HO_10 := am (Kd.R_below (rx HO_10.out) hb); replace HO_438000 := am (Kd.R_below (rx HO_438000.out) hb); replace HO_445002 := am (Kd.R_below (rx HO_445002.out) hb); replace HO452 := am (Kd.R_below (rx HO452.out) hb); replace HO458 := am (Kd.R_below (rx HO458.out) hb); replace BK417 := am (bb hb (kx BK417.out)); replace BK418 := am (bb hb (kx BK418.out)); replace BK437 := am (bb hb (kx BK437.out)); replace BK444 := am (bb hb (kx BK444.out)); replace HB := am (below_step (zb4 HB.out GE417.out GE418.out GE437.out GE444.out) hb); (try clear hb); (try clear hb2); (try clear hk); (try clear hi)))
           go_meet
           case rel => exact ⟨_, ((t448 != t433)), (by first | rfl | (simp; done) | (simp [*]; done)), H', ⟨by have := HJ24.out; first | omega | exact Nat.le_refl _⟩, ⟨rx HO_6.out⟩, ⟨rx HO_10.out⟩, ⟨rx (Kd.R_mono HO_438000.out (fun _ hk => trivial))⟩, ⟨rx (Kd.R_mono HO_445002.out (fun _ hk => trivial))⟩, ⟨kx BK417.out⟩, ⟨kx BK418.out⟩, ⟨kx BK437.out⟩, ⟨kx BK444.out⟩, ⟨zb4 HB.out GE417.out GE418.out GE437.out GE444.out⟩⟩
          ·replace c93 := Bool.eq_false_iff.mpr c93
           subst c93
           have H1 : (laws_FnExactSnapActs.j1 kj24 t430 t433 t445 true l0_0 a1_0 a1_1 l1_2 a1_3) = some r := by rw [if_neg (show ¬ (false = true) by decide)] at H; exact H
           clear H
           have H := H1
           clear H1
           have H' := Aside0.mk H
           clear H
           obtain ⟨Ao97, co97, eo97⟩ := Kd.R_slice HO_10.out
           subst eo97
           obtain ⟨Ao98, co98, eo98⟩ := Kd.R_slice HO_6.out
           subst eo98
           go_wp2_with (first | (go_at_call 10; (with_reducible refine (laws_eqActS.calls kj24 _ _ t445 _ _ t430 false _ ?side1 ?side2 ?side3 ?side4 A92.out).mono ?_); (case side1 => repeat (first | exact (Kd.R_reads' HO_10.out).2.2 | (with_reducible refine Kd.C_alloc ?_ _) | (with_reducible refine Kd.C_drewN ?_ _) | (with_reducible refine Kd.C_drew ?_))); (case side2 => exact (Kd.R_reads' HO_10.out).2.1); (case side3 => repeat (first | exact (Kd.R_reads' HO_6.out).2.2 | (with_reducible refine Kd.C_alloc ?_ _) | (with_reducible refine Kd.C_drewN ?_ _) | (with_reducible refine Kd.C_drew ?_))); (case side4 => exact (Kd.R_reads' HO_6.out).2.1); rintro e w99 ⟨rfl, hb⟩; replace HO_6 := am (Kd.R_below (rx HO_6.out) hb); replace HO_10 := am (Kd.R_below (rx HO_10.out) hb); replace HO_438000 := am (Kd.R_below (rx HO_438000.out) hb); replace HO_445002 := am (Kd.R_below (rx HO_445002.out) hb); replace HO452 := am (Kd.R_below (rx HO452.out) hb); replace HO458 := am (Kd.R_below (rx HO458.out) hb); replace BK417 := am (bb hb (kx BK417.out)); replace BK418 := am (bb hb (kx BK418.out)); replace BK437 := am (bb hb (kx BK437.out)); replace BK444 := am (bb hb (kx BK444.out)); replace HB := am (below_step (zb4 HB.out GE417.out GE418.out GE437.out GE444.out) hb); (try clear hb); (try clear hb2); (try clear hk); (try clear hi)))
           go_meet
           case rel => exact ⟨_, (true), (by first | rfl | (simp; done) | (simp [*]; done)), H', ⟨by have := HJ24.out; first | omega | exact Nat.le_refl _⟩, ⟨rx HO_6.out⟩, ⟨rx HO_10.out⟩, ⟨rx (Kd.R_mono HO_438000.out (fun _ hk => trivial))⟩, ⟨rx (Kd.R_mono HO_445002.out (fun _ hk => trivial))⟩, ⟨kx BK417.out⟩, ⟨kx BK418.out⟩, ⟨kx BK437.out⟩, ⟨kx BK444.out⟩, ⟨zb4 HB.out GE417.out GE418.out GE437.out GE444.out⟩⟩
        case rest =>
         clear HC73
         try clear c1
         try clear c2
         try clear p2
         try clear c4
         try clear c4b0
         try clear c5
         try clear c6
         try clear c7
         try clear c8
         try clear c9
         try clear c10
         try clear c11
         try clear c11b0
         try clear c12
         try clear c14
         try clear c20
         try clear c21
         try clear c22
         try clear c23
         try clear c24
         try clear c25
         try clear c28
         try clear c43
         try clear c44
         try clear c49
         try clear c50
         try clear c51
         try clear c57
         try clear c64
         try clear c67
         try clear c70
         try clear c82
         try clear c83
         try clear c84
         try clear c87
         try clear c88
         try clear c91
         try clear c91b0
         try clear c93
         try clear hcz15_0
         try clear hcz17_0
         try clear hcz17_1
         try clear hcz17_2
         try clear hcz17_3
         try clear hcz29_0
         try clear hcz31_0
         try clear hcz31_1
         try clear hcz31_2
         try clear hcz31_3
         try clear hcz39_0
         try clear hcz45_0
         try clear hcz46_0
         try clear hcz46_1
         try clear hcz46_2
         try clear hcz46_3
         try clear hcz52_0
         try clear hcz52_1
         try clear hcz52_2
         try clear hcz52_3
         try clear hcz54_0
         try clear hcz85_0
         try clear hcz89_0
         try clear hcz89_1
         try clear hcz89_2
         try clear hcz89_3
         try clear hcz8_0
         try clear hfz15_0
         try clear hfz17_0
         try clear hfz17_1
         try clear hfz17_2
         try clear hfz17_3
         try clear hfz29_0
         try clear hfz31_0
         try clear hfz31_1
         try clear hfz31_2
         try clear hfz31_3
         try clear hfz39_0
         try clear hfz45_0
         try clear hfz46_0
         try clear hfz46_1
         try clear hfz46_2
         try clear hfz46_3
         try clear hfz52_0
         try clear hfz52_1
         try clear hfz52_2
         try clear hfz52_3
         try clear hfz54_0
         try clear hfz85_0
         try clear hfz89_0
         try clear hfz89_1
         try clear hfz89_2
         try clear hfz89_3
         try clear hfz8_0
         try clear p2
         obtain ⟨kq, x82_72, rfl, HA, HJ72, HO_6, HO_10, HO_438000, HO_445002, BK417, BK418, BK437, BK444, HB⟩ := hcut
         have hl438000_72 := (Kd.R_reads' HO_438000.out).1
         rw [hl438000_72] at HO_438000
         (try simp only [hl438000_72])
         (try simp only [hl438000_72] at BK417)
         (try simp only [hl438000_72] at BK418)
         (try simp only [hl438000_72] at BK437)
         (try simp only [hl438000_72] at BK444)
         (try simp only [hl438000_72] at HO_6)
         (try simp only [hl438000_72] at HO_10)
         (try simp only [hl438000_72] at HO_445002)
         have hl445002_72 := (Kd.R_reads' HO_445002.out).1
         rw [hl445002_72] at HO_445002
         (try simp only [hl445002_72])
         (try simp only [hl445002_72] at BK417)
         (try simp only [hl445002_72] at BK418)
         (try simp only [hl445002_72] at BK437)
         (try simp only [hl445002_72] at BK444)
         (try simp only [hl445002_72] at HO_6)
         (try simp only [hl445002_72] at HO_10)
         (try simp only [hl445002_72] at HO_438000)
         cases kq with
         | zero => exact absurd HA.out (by simp [laws_FnExactSnapActs.j1])
         | succ kj72 =>
          have H := HA.out
          clear HA
          simp only [laws_FnExactSnapActs.j1] at H
          by_cases c100 : x82_72 = true
          ·subst c100
           have H1 : (some false) = some r := by rw [if_pos rfl] at H; exact H
           clear H
           have H := H1
           clear H1
           exact absurd ((Option.some.inj H).trans HLT.out) (by decide)
          ·replace c100 := Bool.eq_false_iff.mpr c100
           subst c100
           have H1 : ((laws_markActS.f kj72 t445 1).bind fun bt466 => ((laws_heldActS.f kj72 bt466.2 1).bind fun t468 => (if t468 < 0 then (some false) else (if t468 = bt466.1 then ((laws_toDisk.f kj72 l0_0).bind fun t469 => ((laws_toSnap.f kj72 a1_0 a1_1 l1_2 a1_3).bind fun bt472 => ((impl_SnapActs.f kj72 t469 bt472.1 bt472.2.1 bt472.2.2.1 bt472.2.2.2).bind fun bt478 => ((laws_eqActS.f kj72 bt478.1 t430).bind fun t482 => (if t482 = true then (laws_FnExactSnapActs.j2 kj72 bt466.2 bt466.1 (bt478.2 != t433)) else (laws_FnExactSnapActs.j2 kj72 bt466.2 bt466.1 true)))))) else (some false))))) = some r := by rw [if_neg (show ¬ (false = true) by decide)] at H; exact H
           clear H
           have H := H1
           clear H1
           replace H := Option.bind_eq_some_iff.mp H
           obtain ⟨⟨t466, t467⟩, A1010, H⟩ := H
           try dsimp only at H
           have A101 := Aside0.mk A1010
           clear A1010
           replace H := Option.bind_eq_some_iff.mp H
           obtain ⟨t468, A1020, H⟩ := H
           try dsimp only at H
           have A102 := Aside0.mk A1020
           clear A1020
           by_cases c103 : t468 < 0
           ·rw [if_pos c103] at H
            have c103b0 : decide (t468 < 0) = true := decide_eq_true c103
            clear c103
            exact absurd ((Option.some.inj H).trans HLT.out) (by decide)
           ·rw [if_neg c103] at H
            have c103b0 : decide (t468 < 0) = false := decide_eq_false c103
            clear c103
            by_cases c104 : t468 = t466
            ·rw [if_pos c104] at H
             have c104b0 : (t468 == t466) = true := beq_iff_eq.mpr c104
             have c104b1 : (t468 != t466) = false := bne_eq_false_iff_eq.mpr c104
             clear c104
             replace H := Option.bind_eq_some_iff.mp H
             obtain ⟨t469, A1050, H⟩ := H
             try dsimp only at H
             have A105 := Aside0.mk A1050
             clear A1050
             replace H := Option.bind_eq_some_iff.mp H
             obtain ⟨⟨t472, t473, t474, t477⟩, A1060, H⟩ := H
             try dsimp only at H
             have A106 := Aside0.mk A1060
             clear A1060
             replace H := Option.bind_eq_some_iff.mp H
             obtain ⟨⟨t478, t481⟩, A1070, H⟩ := H
             try dsimp only at H
             have A107 := Aside0.mk A1070
             clear A1070
             have HC108 := Aside0.mk H
             clear H
             obtain ⟨Ao109, co109, eo109⟩ := Kd.R_slice HO_10.out
             subst eo109
             try go_wp2_with (first | ((with_reducible refine gate_callee (f := 13) rfl ?_); refine goesL_ (some 85) rfl rfl Tryz.func13 (by kernel_rfl) rfl #[.slice Ao109 t445.length co109, .int .i64 1] rfl zr ?_; (with_reducible refine (laws_markActS.calls kj72 (fun k_ => some k_ = (.slice Ao109 t445.length co109 : Value).ownBlock) (.slice Ao109 t445.length co109) t445 1 t466 t467 w _ ?side1 ?side2 A101.out).mono ?_); (case side1 => repeat (first | (with_reducible first | exact HB.out | apply below_alloc | apply pw_below_drewN | apply below_drew1 | refine below_set ?_ GE417.out | refine below_set ?_ GE418.out | refine below_set ?_ GE437.out | refine below_set ?_ GE444.out) | exact HB.out)); (case side2 => exact Kd.R_tight rfl HO_10.out); rintro e w110 ⟨rfl, hy0, hb, hkp⟩; refine ⟨_, rfl, ?_⟩; replace HO_6 := am (Kd.R_mono (ok' := fun k_ => some k_ ≠ (.slice Ao109 t445.length co109 : Value).ownBlock) (Kd.R_keptB (HO_6.out) hkp (fun k_ hk_ hs_ => (hk_) hs_)) (fun k_ hk_ => hk_.1)); replace HO_438000 := am (Kd.R_mono (ok' := fun k_ => True) (Kd.R_keptB ((Kd.R_apart' HO_438000.out (Kd.R_typed HO_10.out) (by decide))) hkp (fun k_ hk_ hs_ => (hk_.2) hs_)) (fun k_ hk_ => trivial)); replace HO_445002 := am (Kd.R_mono (ok' := fun k_ => True) (Kd.R_keptB ((Kd.R_apart' HO_445002.out (Kd.R_typed HO_10.out) (by decide))) hkp (fun k_ hk_ hs_ => (hk_.2) hs_)) (fun k_ hk_ => trivial)); replace BK417 := am (blk_kept (kx BK417.out) hkp (fun hs_ => (fun e_ => (Kd.R_ne HO_10.out BK417.out (by decide)) e_) hs_)); replace BK418 := am (blk_kept (kx BK418.out) hkp (fun hs_ => (fun e_ => (Kd.R_ne HO_10.out BK418.out (by decide)) e_) hs_)); replace BK437 := am (blk_kept (kx BK437.out) hkp (fun hs_ => (fun e_ => (Kd.R_ne HO_10.out BK437.out (by decide)) e_) hs_)); replace BK444 := am (blk_kept (kx BK444.out) hkp (fun hs_ => (fun e_ => (Kd.R_ne HO_10.out BK444.out (by decide)) e_) hs_)); replace HO_10 := am (Kd.R_reok rfl hy0 (fun k_ e_ => HO_10.out.1 k_ e_)); replace HB := am (hb); (try clear hb); (try clear hkp); (try clear hy0)) | ((with_reducible refine gate_callee (f := 14) rfl ?_); refine goesL_ (some 88) rfl rfl Tryz.func14 (by kernel_rfl) rfl #[.slice Ao109 t467.length co109, .int .i64 1] rfl (by (try simp only [List.map_toArray, List.map_cons, List.map_nil]); first | done | (rw [show t467.length = t445.length from (Kd.R_reads' HO_10.out).1.symm] <;> rfl) | rfl | (simp only [List.length_drop, List.length_take]; rfl)) ?_; (with_reducible refine (laws_heldActS.calls kj72 _ _ t467 1 t468 _ ?side1 ?side2 A102.out).mono ?_); (case side1 => repeat (first | exact (Kd.R_reads' HO_10.out).2.2 | (with_reducible refine Kd.C_alloc ?_ _) | (with_reducible refine Kd.C_drewN ?_ _) | (with_reducible refine Kd.C_drew ?_))); (case side2 => rw [show t467.length = t445.length from (Kd.R_reads' HO_10.out).1.symm]; exact (Kd.R_reads' HO_10.out).2.1); rintro e w111 ⟨rfl, hb⟩; refine ⟨_, rfl, ?_⟩; replace HO_6 := am (Kd.R_below (rx HO_6.out) hb); replace HO_10 := am (Kd.R_below (rx HO_10.out) hb); replace HO_438000 := am (Kd.R_below (rx HO_438000.out) hb); replace HO_445002 := am (Kd.R_below (rx HO_445002.out) hb); replace BK417 := am (bb hb (kx BK417.out)); replace BK418 := am (bb hb (kx BK418.out)); replace BK437 := am (bb hb (kx BK437.out)); replace BK444 := am (bb hb (kx BK444.out)); replace HB := am (below_step (zb4 HB.out GE417.out GE418.out GE437.out GE444.out) hb); (try clear hb); (try clear hb2); (try clear hk); (try clear hi)))
             replace HO_6 := am (Kd.R_drew HO_6.out)
             replace HO_10 := am (Kd.R_drew HO_10.out)
             replace HO_438000 := am (Kd.R_drew HO_438000.out)
             replace HO_445002 := am (Kd.R_drew HO_445002.out)
             replace BK417 := am (blk_drew BK417.out)
             replace BK418 := am (blk_drew BK418.out)
             replace BK437 := am (blk_drew BK437.out)
             replace BK444 := am (blk_drew BK444.out)
             replace HB := am (below_drew1 HB.out)
             refine start_ (n := 10) (S := fun w' => w'.cell? ⟨gb417, 0, none⟩ = some (.slice A0_0 l0_0.length c0_0) ∧ w'.cell? ⟨gb418, 0, none⟩ = some (.int .i64 a1_0) ∧ w'.cell? ⟨gb418, 1, none⟩ = some (.int .i64 a1_1) ∧ w'.cell? ⟨gb418, 2, none⟩ = some (.slice A1_2 l1_2.length c1_2) ∧ w'.cell? ⟨gb418, 3, none⟩ = some (.string a1_3)) (ds := []) #[false, false, false, false, false, false, false, false, false, false] (by kernel_rfl) rfl rfl ⟨ct BK417.out 0, ct BK418.out 0, ct BK418.out 1, ct BK418.out 2, ct BK418.out 3⟩ (fun hHeld => ?_); refine with_tabW laws_FnExactSnapActs.tab31 laws_FnExactSnapActs.bits31 (fun HT_ HW_ => ?_)
             generalize w111.drew = w112 at HO_6 HO_10 HO_438000 HO_445002 BK417 BK418 BK437 BK444 HB hHeld ⊢
             refine take_ (i := 0) (N := some 95) (v := ?_) (a' := ?_) #[true, false, false, false, false, false, false, false, false, false] rfl rfl (take_ofW HT_.out HW_.out (by kernel_rfl)) (fun _ _ _ h => h) (Or.inl ⟨by rfl, ?_⟩) hHeld ?_ ?_
             rotate_left
             ·rintro w' ⟨s0, s1, s2, s3, s4⟩
              go_simp
              with_reducible rfl
             rotate_left
             ·simp only [Act.put, List.setIfInBounds_toArray, List.set_cons_zero, List.set_cons_succ, i64_w, i32_w]
              rfl
             refine take_ (i := 2) (N := some 97) (v := ?_) (a' := ?_) #[true, false, true, false, false, false, false, false, false, false] rfl rfl (take_ofW HT_.out HW_.out (by kernel_rfl)) (fun _ _ _ h => h) (Or.inl ⟨by rfl, ?_⟩) hHeld ?_ ?_
             rotate_left
             ·rintro w' ⟨s0, s1, s2, s3, s4⟩
              go_simp
              with_reducible rfl
             rotate_left
             ·simp only [Act.put, List.setIfInBounds_toArray, List.set_cons_zero, List.set_cons_succ, i64_w, i32_w]
              rfl
             refine one_ (i := 1) (N := some 96) #[true, true, true, false, false, false, false, false, false, false] rfl rfl (one_of HT_.out (by kernel_rfl)) (by decide) (fun K hK => ?_)
             refine goes_ Tryz.func8 (by kernel_rfl) rfl #[.agg #[.slice A0_0 l0_0.length c0_0]] (by rfl) rfl rfl zr ?_
             with_reducible refine (laws_toDisk.calls kj72 _ _ l0_0 t469 _ ?side1 ?side2 A105.out).mono ?_
             (case side1 => repeat (first | exact (Kd.C_below HR0_0.out HB.out) | (with_reducible refine Kd.C_alloc ?_ _) | (with_reducible refine Kd.C_drewN ?_ _) | (with_reducible refine Kd.C_drew ?_)))
             (case side2 => exact HC0_0.out)
             rintro e w113 ⟨v470, rfl, ho0, hb⟩
             refine ⟨_, rfl, ?_⟩
             have HO471 := am (Kd.R_lower (Kd.R_new' ho0 (Kd.R_lt (rx HO_438000.out))) (below_size (zb4 HB.out GE417.out GE418.out GE437.out GE444.out)))
             replace HO_6 := am (Kd.R_below (rx HO_6.out) hb)
             replace HO_10 := am (Kd.R_below (rx HO_10.out) hb)
             replace HO_438000 := am (Kd.R_elder' (rx HO_438000.out) (Kd.R_base ho0) hb)
             replace HO_445002 := am (Kd.R_below (rx HO_445002.out) hb)
             replace BK417 := am (bb hb (kx BK417.out))
             replace BK418 := am (bb hb (kx BK418.out))
             replace BK437 := am (bb hb (kx BK437.out))
             replace BK444 := am (bb hb (kx BK444.out))
             replace HB := am (below_step (zb4 HB.out GE417.out GE418.out GE437.out GE444.out) hb)
             try clear hb
             try clear hb2
             try clear hk
             try clear hi
             try clear ho0
             refine hK.out _ _ ⟨ct BK417.out 0, ct BK418.out 0, ct BK418.out 1, ct BK418.out 2, ct BK418.out 3⟩ (fun hHeld => ?_)
             clear hK K
             refine norm_ (a' := ?_) ?_ ?_
             rotate_left
             ·show Act.put _ (some 96) _ = _
              simp only [Act.put, List.setIfInBounds_toArray, List.set_cons_zero, List.set_cons_succ, i64_w, i32_w]
              rfl
             refine one_ (i := 3) (N := some 98) #[true, true, true, true, false, false, false, false, false, false] rfl rfl (one_of HT_.out (by kernel_rfl)) (by decide) (fun K hK => ?_)
             refine goes_ Tryz.func22 (by kernel_rfl) rfl #[.agg #[.int .i64 a1_0, .int .i64 a1_1, .slice A1_2 l1_2.length c1_2, .string a1_3]] (by rfl) rfl rfl zr ?_
             with_reducible refine (laws_toSnap.calls kj72 a1_0 a1_1 _ _ l1_2 a1_3 t472 t473 t474 t477 _ ?side1 ?side2 A106.out).mono ?_
             (case side1 => repeat (first | exact (Kd.C_below HR1_2.out HB.out) | (with_reducible refine Kd.C_alloc ?_ _) | (with_reducible refine Kd.C_drewN ?_ _) | (with_reducible refine Kd.C_drew ?_)))
             (case side2 => exact HC1_2.out)
             rintro e w114 ⟨v475, rfl, ho0, hb⟩
             refine ⟨_, rfl, ?_⟩
             have HO476 := am (Kd.R_lower (Kd.R_new' ho0 (Kd.R_lt (rx HO_445002.out))) (below_size (zb4 HB.out GE417.out GE418.out GE437.out GE444.out)))
             replace HO_6 := am (Kd.R_below (rx HO_6.out) hb)
             replace HO_10 := am (Kd.R_below (rx HO_10.out) hb)
             replace HO_438000 := am (Kd.R_below (rx HO_438000.out) hb)
             replace HO_445002 := am (Kd.R_elder' (rx HO_445002.out) (Kd.R_base ho0) hb)
             replace HO471 := am (Kd.R_below (rx HO471.out) hb)
             replace BK417 := am (bb hb (kx BK417.out))
             replace BK418 := am (bb hb (kx BK418.out))
             replace BK437 := am (bb hb (kx BK437.out))
             replace BK444 := am (bb hb (kx BK444.out))
             replace HB := am (below_step (zb4 HB.out GE417.out GE418.out GE437.out GE444.out) hb)
             try clear hb
             try clear hb2
             try clear hk
             try clear hi
             try clear ho0
             obtain ⟨Ao115, co115, eo115⟩ := Kd.R_slice HO471.out
             (first | subst eo115 | (injection eo115 with f1_ f2_ f3_; have f4_ := f1_.symm; have f5_ := f3_.symm; clear f1_ f2_ f3_; subst f4_; subst f5_))
             obtain ⟨Ao116, co116, eo116⟩ := Kd.R_slice HO476.out
             (first | subst eo116 | (injection eo116 with f1_ f2_ f3_; have f4_ := f1_.symm; have f5_ := f3_.symm; clear f1_ f2_ f3_; subst f4_; subst f5_))
             refine hK.out _ _ ⟨ct BK417.out 0, ct BK418.out 0, ct BK418.out 1, ct BK418.out 2, ct BK418.out 3⟩ (fun hHeld => ?_)
             clear hK K
             refine norm_ (a' := ?_) ?_ ?_
             rotate_left
             ·show Act.put _ (some 98) _ = _
              simp only [Act.put, List.setIfInBounds_toArray, List.set_cons_zero, List.set_cons_succ, i64_w, i32_w]
              rfl
             refine one_ (i := 4) (N := some 99) #[true, true, true, true, true, false, false, false, false, false] rfl rfl (one_of HT_.out (by kernel_rfl)) (by decide) (fun K hK => ?_)
             refine goes_ Tryz.func23 (by kernel_rfl) rfl #[.agg #[.slice Ao115 t469.length co115], .agg #[.int .i64 t472, .int .i64 t473, .slice Ao116 t474.length co116, .string t477]] (by rfl) rfl rfl zr ?_
             with_reducible refine (impl_SnapActs.calls kj72 _ _ t469 t472 t473 _ _ t474 t477 t478 t481 _ ?side1 ?side2 ?side3 ?side4 A107.out ?laid).mono ?_; (case laid => exact LaidW.later HLW.out (zb4 HB.out GE417.out GE418.out GE437.out GE444.out))
             (case side1 => repeat (first | exact (Kd.R_reads' HO471.out).2.2 | (with_reducible refine Kd.C_alloc ?_ _) | (with_reducible refine Kd.C_drewN ?_ _) | (with_reducible refine Kd.C_drew ?_)))
             (case side2 => exact (Kd.R_reads' HO471.out).2.1)
             (case side3 => repeat (first | exact (Kd.R_reads' HO476.out).2.2 | (with_reducible refine Kd.C_alloc ?_ _) | (with_reducible refine Kd.C_drewN ?_ _) | (with_reducible refine Kd.C_drew ?_)))
             (case side4 => exact (Kd.R_reads' HO476.out).2.1)
             rintro e w117 ⟨v479, rfl, ho0, hb⟩
             refine ⟨_, rfl, ?_⟩
             have HO480 := am (Kd.R_lower (Kd.R_new' (Kd.R_new' ho0 (Kd.R_lt (rx HO_6.out))) (Kd.R_lt (rx HO_10.out))) (below_size (zb4 HB.out GE417.out GE418.out GE437.out GE444.out)))
             replace HO_6 := am (Kd.R_elder' (rx HO_6.out) (Kd.R_base ho0) hb)
             replace HO_10 := am (Kd.R_elder' (rx HO_10.out) (Kd.R_base ho0) hb)
             replace HO_438000 := am (Kd.R_below (rx HO_438000.out) hb)
             replace HO_445002 := am (Kd.R_below (rx HO_445002.out) hb)
             replace HO471 := am (Kd.R_below (rx HO471.out) hb)
             replace HO476 := am (Kd.R_below (rx HO476.out) hb)
             replace BK417 := am (bb hb (kx BK417.out))
             replace BK418 := am (bb hb (kx BK418.out))
             replace BK437 := am (bb hb (kx BK437.out))
             replace BK444 := am (bb hb (kx BK444.out))
             replace HB := am (below_step (zb4 HB.out GE417.out GE418.out GE437.out GE444.out) hb)
             try clear hb
             try clear hb2
             try clear hk
             try clear hi
             try clear ho0
             refine hK.out _ _ ⟨ct BK417.out 0, ct BK418.out 0, ct BK418.out 1, ct BK418.out 2, ct BK418.out 3⟩ (fun hHeld => ?_)
             clear hK K
             refine norm_ (a' := ?_) ?_ ?_
             rotate_left
             ·show Act.put _ (some 99) _ = _
              simp only [Act.put, List.setIfInBounds_toArray, List.set_cons_zero, List.set_cons_succ, i64_w, i32_w]
              rfl
             refine pure_ (i := 5) (N := some 94) (v := ?_) (a' := ?_) #[true, true, true, true, true, true, false, false, false, false] rfl rfl (any_of HT_.out (by kernel_rfl)) (fun _ _ _ h => h) (Or.inl ⟨by rfl, ?_⟩) ?_ ?_
             rotate_left
             ·intro w'
              go_simp
              with_reducible rfl
             rotate_left
             ·simp only [Act.put, List.setIfInBounds_toArray, List.set_cons_zero, List.set_cons_succ, i64_w, i32_w]
              rfl
             refine pure_ (i := 6) (N := some 100) (v := ?_) (a' := ?_) #[true, true, true, true, true, true, true, false, false, false] rfl rfl (any_of HT_.out (by kernel_rfl)) (fun _ _ _ h => h) (Or.inl ⟨by rfl, ?_⟩) ?_ ?_
             rotate_left
             ·intro w'
              go_simp
              with_reducible rfl
             rotate_left
             ·simp only [Act.put, List.setIfInBounds_toArray, List.set_cons_zero, List.set_cons_succ, i64_w, i32_w]
              rfl
             refine pure_ (i := 7) (N := some 101) (v := ?_) (a' := ?_) #[true, true, true, true, true, true, true, true, false, false] rfl rfl (any_of HT_.out (by kernel_rfl)) (fun _ _ _ h => h) (Or.inl ⟨by rfl, ?_⟩) ?_ ?_
             rotate_left
             ·intro w'
              go_simp
              with_reducible rfl
             rotate_left
             ·simp only [Act.put, List.setIfInBounds_toArray, List.set_cons_zero, List.set_cons_succ, i64_w, i32_w]
              rfl
             refine pure_ (i := 8) (N := some 15) (v := ?_) (a' := ?_) #[true, true, true, true, true, true, true, true, true, false] rfl rfl (any_of HT_.out (by kernel_rfl)) (fun _ _ _ h => h) (Or.inl ⟨by rfl, ?_⟩) ?_ ?_
             rotate_left
             ·intro w'
              go_simp
              with_reducible rfl
             rotate_left
             ·simp only [Act.put, List.setIfInBounds_toArray, List.set_cons_zero, List.set_cons_succ, i64_w, i32_w]
              rfl
             refine pure_ (i := 9) (N := some 16) (v := ?_) (a' := ?_) #[true, true, true, true, true, true, true, true, true, true] rfl rfl (any_of HT_.out (by kernel_rfl)) (fun _ _ _ h => h) (Or.inl ⟨by rfl, ?_⟩) ?_ ?_
             rotate_left
             ·intro w'
              go_simp
              with_reducible rfl
             rotate_left
             ·simp only [Act.put, List.setIfInBounds_toArray, List.set_cons_zero, List.set_cons_succ, i64_w, i32_w]
              rfl
             refine done_ (done_of HT_.out (by kernel_rfl)) ?_
             go_upto_region 32 with (fail)
             go_cut [110] (fun v110 wc => ∃ (kq : Nat) (x110_107 : Bool), v110 = .bool x110_107 ∧ Aside0 (laws_FnExactSnapActs.j2 kq t467 t466 x110_107 = some r) ∧ Aside0 (kq ≤ kj72) ∧ Aside0 (Kd.R k67 67 wc w.heap.size (fun _ => True) (.slice Ao109 t445.length co109) t467) ∧ Aside0 (Kd.R k63 63 wc w.heap.size (fun _ => True) (.slice Ao42 t462.length co42) t462) ∧ Aside0 (Kd.R (Kd.int .i64) 3 wc w.heap.size (fun _ => True) (.slice Ao53 t464.length co53) t464) ∧ Aside0 (wc.heap[gb417]? = some (.cells #[(.slice A0_0 l0_0.length c0_0)] 24 (0, 0))) ∧ Aside0 (wc.heap[gb418]? = some (.cells #[.int .i64 a1_0, .int .i64 a1_1, (.slice A1_2 l1_2.length c1_2), .string a1_3] 48 (0, 0))) ∧ Aside0 (wc.heap[gb437]? = some (.cells #[(.slice Ao42 t462.length co42)] 30 (0, 0))) ∧ Aside0 (wc.heap[gb444]? = some (.cells #[.int .i64 t438, .int .i64 t439, (.slice Ao53 t464.length co53), .string t443] 52 (0, 0))) ∧ Aside0 (Below w.heap.size w wc))
             case first =>
              have H := HC108.out
              clear HC108
              replace H := Option.bind_eq_some_iff.mp H
              obtain ⟨t482, A1180, H⟩ := H
              try dsimp only at H
              have A118 := Aside0.mk A1180
              clear A1180
              by_cases c119 : t482 = true
              ·subst c119
               have H1 : (laws_FnExactSnapActs.j2 kj72 t467 t466 (t481 != t433)) = some r := by rw [if_pos rfl] at H; exact H
               clear H
               have H := H1
               clear H1
               have H' := Aside0.mk H
               clear H
               obtain ⟨Ao120, co120, eo120⟩ := Kd.R_slice HO480.out
               subst eo120
               obtain ⟨Ao121, co121, eo121⟩ := Kd.R_slice HO_6.out
               subst eo121
               go_wp2_with (first | ((with_reducible refine gate_callee (f := 10) rfl ?_); refine goesL_ (some 104) rfl rfl Tryz.func10 (by kernel_rfl) rfl #[.slice Ao120 t478.length co120, .slice Ao121 t430.length co121] rfl zr ?_; (with_reducible refine (laws_eqActS.calls kj72 _ _ t478 _ _ t430 true _ ?side1 ?side2 ?side3 ?side4 A118.out).mono ?_); (case side1 => repeat (first | exact (Kd.R_reads' HO480.out).2.2 | (with_reducible refine Kd.C_alloc ?_ _) | (with_reducible refine Kd.C_drewN ?_ _) | (with_reducible refine Kd.C_drew ?_))); (case side2 => exact (Kd.R_reads' HO480.out).2.1); (case side3 => repeat (first | exact (Kd.R_reads' HO_6.out).2.2 | (with_reducible refine Kd.C_alloc ?_ _) | (with_reducible refine Kd.C_drewN ?_ _) | (with_reducible refine Kd.C_drew ?_))); (case side4 => exact (Kd.R_reads' HO_6.out).2.1); rintro e w122 ⟨rfl, hb⟩; refine ⟨_, rfl, ?_⟩; replace HO_6 := am (Kd.R_below (rx HO_6.out) hb); replace HO_10 := am (Kd.R_below (rx HO_10.out) hb); replace HO_438000 := am (Kd.R_below (rx HO_438000.out) hb); replace HO_445002 := am (Kd.R_below (rx HO_445002.out) hb); replace HO471 := am (Kd.R_below (rx HO471.out) hb); replace HO476 := am (Kd.R_below (rx HO476.out) hb); replace HO480 := am (Kd.R_below (rx HO480.out) hb); replace BK417 := am (bb hb (kx BK417.out)); replace BK418 := am (bb hb (kx BK418.out)); replace BK437 := am (bb hb (kx BK437.out)); replace BK444 := am (bb hb (kx BK444.out)); replace HB := am (below_step (zb4 HB.out GE417.out GE418.out GE437.out GE444.out) hb); (try clear hb); (try clear hb2); (try clear hk); (try clear hi)))
               go_meet
               case rel => exact ⟨_, ((t481 != t433)), (by first | rfl | (simp; done) | (simp [*]; done)), H', ⟨by have := HJ24.out; have := HJ72.out; first | omega | exact Nat.le_refl _⟩, ⟨by (try simp only [hl438000_72]); (try simp only [hl445002_72]); (with_reducible repeat (first | apply Kd.R_alloc | apply Kd.R_drewN | apply Kd.R_drew)); exact Kd.R_mono HO_10.out (fun _ hk => trivial)⟩, ⟨by (try simp only [hl438000_72]); (try simp only [hl445002_72]); (with_reducible repeat (first | apply Kd.R_alloc | apply Kd.R_drewN | apply Kd.R_drew)); exact Kd.R_mono HO_438000.out (fun _ hk => trivial)⟩, ⟨by (try simp only [hl438000_72]); (try simp only [hl445002_72]); (with_reducible repeat (first | apply Kd.R_alloc | apply Kd.R_drewN | apply Kd.R_drew)); exact Kd.R_mono HO_445002.out (fun _ hk => trivial)⟩, ⟨by (try simp only [hl438000_72]); (try simp only [hl445002_72]); (with_reducible repeat (first | refine blk_drewN ?_ _ | refine blk_drew ?_ | refine blk_alloc ?_ _)); exact BK417.out⟩, ⟨by (try simp only [hl438000_72]); (try simp only [hl445002_72]); (with_reducible repeat (first | refine blk_drewN ?_ _ | refine blk_drew ?_ | refine blk_alloc ?_ _)); exact BK418.out⟩, ⟨by (try simp only [hl438000_72]); (try simp only [hl445002_72]); (with_reducible repeat (first | refine blk_drewN ?_ _ | refine blk_drew ?_ | refine blk_alloc ?_ _)); exact BK437.out⟩, ⟨by (try simp only [hl438000_72]); (try simp only [hl445002_72]); (with_reducible repeat (first | refine blk_drewN ?_ _ | refine blk_drew ?_ | refine blk_alloc ?_ _)); exact BK444.out⟩, ⟨zb4 HB.out GE417.out GE418.out GE437.out GE444.out⟩⟩
              ·replace c119 := Bool.eq_false_iff.mpr c119
               subst c119
               have H1 : (laws_FnExactSnapActs.j2 kj72 t467 t466 true) = some r := by rw [if_neg (show ¬ (false = true) by decide)] at H; exact H
               clear H
               have H := H1
               clear H1
               have H' := Aside0.mk H
               clear H
               obtain ⟨Ao123, co123, eo123⟩ := Kd.R_slice HO480.out
               subst eo123
               obtain ⟨Ao124, co124, eo124⟩ := Kd.R_slice HO_6.out
               subst eo124
               go_wp2_with (first | ((with_reducible refine gate_callee (f := 10) rfl ?_); refine goesL_ (some 104) rfl rfl Tryz.func10 (by kernel_rfl) rfl #[.slice Ao123 t478.length co123, .slice Ao124 t430.length co124] rfl zr ?_; (with_reducible refine (laws_eqActS.calls kj72 _ _ t478 _ _ t430 false _ ?side1 ?side2 ?side3 ?side4 A118.out).mono ?_); (case side1 => repeat (first | exact (Kd.R_reads' HO480.out).2.2 | (with_reducible refine Kd.C_alloc ?_ _) | (with_reducible refine Kd.C_drewN ?_ _) | (with_reducible refine Kd.C_drew ?_))); (case side2 => exact (Kd.R_reads' HO480.out).2.1); (case side3 => repeat (first | exact (Kd.R_reads' HO_6.out).2.2 | (with_reducible refine Kd.C_alloc ?_ _) | (with_reducible refine Kd.C_drewN ?_ _) | (with_reducible refine Kd.C_drew ?_))); (case side4 => exact (Kd.R_reads' HO_6.out).2.1); rintro e w125 ⟨rfl, hb⟩; refine ⟨_, rfl, ?_⟩; replace HO_6 := am (Kd.R_below (rx HO_6.out) hb); replace HO_10 := am (Kd.R_below (rx HO_10.out) hb); replace HO_438000 := am (Kd.R_below (rx HO_438000.out) hb); replace HO_445002 := am (Kd.R_below (rx HO_445002.out) hb); replace HO471 := am (Kd.R_below (rx HO471.out) hb); replace HO476 := am (Kd.R_below (rx HO476.out) hb); replace HO480 := am (Kd.R_below (rx HO480.out) hb); replace BK417 := am (bb hb (kx BK417.out)); replace BK418 := am (bb hb (kx BK418.out)); replace BK437 := am (bb hb (kx BK437.out)); replace BK444 := am (bb hb (kx BK444.out)); replace HB := am (below_step (zb4 HB.out GE417.out GE418.out GE437.out GE444.out) hb); (try clear hb); (try clear hb2); (try clear hk); (try clear hi)))
               go_meet
               case rel => exact ⟨_, (true), (by first | rfl | (simp; done) | (simp [*]; done)), H', ⟨by have := HJ24.out; have := HJ72.out; first | omega | exact Nat.le_refl _⟩, ⟨by (try simp only [hl438000_72]); (try simp only [hl445002_72]); (with_reducible repeat (first | apply Kd.R_alloc | apply Kd.R_drewN | apply Kd.R_drew)); exact Kd.R_mono HO_10.out (fun _ hk => trivial)⟩, ⟨by (try simp only [hl438000_72]); (try simp only [hl445002_72]); (with_reducible repeat (first | apply Kd.R_alloc | apply Kd.R_drewN | apply Kd.R_drew)); exact Kd.R_mono HO_438000.out (fun _ hk => trivial)⟩, ⟨by (try simp only [hl438000_72]); (try simp only [hl445002_72]); (with_reducible repeat (first | apply Kd.R_alloc | apply Kd.R_drewN | apply Kd.R_drew)); exact Kd.R_mono HO_445002.out (fun _ hk => trivial)⟩, ⟨by (try simp only [hl438000_72]); (try simp only [hl445002_72]); (with_reducible repeat (first | refine blk_drewN ?_ _ | refine blk_drew ?_ | refine blk_alloc ?_ _)); exact BK417.out⟩, ⟨by (try simp only [hl438000_72]); (try simp only [hl445002_72]); (with_reducible repeat (first | refine blk_drewN ?_ _ | refine blk_drew ?_ | refine blk_alloc ?_ _)); exact BK418.out⟩, ⟨by (try simp only [hl438000_72]); (try simp only [hl445002_72]); (with_reducible repeat (first | refine blk_drewN ?_ _ | refine blk_drew ?_ | refine blk_alloc ?_ _)); exact BK437.out⟩, ⟨by (try simp only [hl438000_72]); (try simp only [hl445002_72]); (with_reducible repeat (first | refine blk_drewN ?_ _ | refine blk_drew ?_ | refine blk_alloc ?_ _)); exact BK444.out⟩, ⟨zb4 HB.out GE417.out GE418.out GE437.out GE444.out⟩⟩
             case rest =>
              clear HC108
              try clear c1
              try clear c2
              try clear p2
              try clear c4
              try clear c4b0
              try clear c5
              try clear c6
              try clear c7
              try clear c8
              try clear c9
              try clear c10
              try clear c11
              try clear c11b0
              try clear c12
              try clear c13
              try clear c14
              try clear c20
              try clear c21
              try clear c22
              try clear c23
              try clear c24
              try clear c25
              try clear c28
              try clear c43
              try clear c44
              try clear c49
              try clear c50
              try clear c51
              try clear c57
              try clear c64
              try clear c67
              try clear c70
              try clear c82
              try clear c83
              try clear c84
              try clear c87
              try clear c88
              try clear c91
              try clear c91b0
              try clear c93
              try clear c100
              try clear c103
              try clear c103b0
              try clear c104
              try clear c104b0
              try clear c104b1
              try clear c119
              try clear hcz15_0
              try clear hcz17_0
              try clear hcz17_1
              try clear hcz17_2
              try clear hcz17_3
              try clear hcz29_0
              try clear hcz31_0
              try clear hcz31_1
              try clear hcz31_2
              try clear hcz31_3
              try clear hcz39_0
              try clear hcz45_0
              try clear hcz46_0
              try clear hcz46_1
              try clear hcz46_2
              try clear hcz46_3
              try clear hcz52_0
              try clear hcz52_1
              try clear hcz52_2
              try clear hcz52_3
              try clear hcz54_0
              try clear hcz85_0
              try clear hcz89_0
              try clear hcz89_1
              try clear hcz89_2
              try clear hcz89_3
              try clear hcz8_0
              try clear hfz15_0
              try clear hfz17_0
              try clear hfz17_1
              try clear hfz17_2
              try clear hfz17_3
              try clear hfz29_0
              try clear hfz31_0
              try clear hfz31_1
              try clear hfz31_2
              try clear hfz31_3
              try clear hfz39_0
              try clear hfz45_0
              try clear hfz46_0
              try clear hfz46_1
              try clear hfz46_2
              try clear hfz46_3
              try clear hfz52_0
              try clear hfz52_1
              try clear hfz52_2
              try clear hfz52_3
              try clear hfz54_0
              try clear hfz85_0
              try clear hfz89_0
              try clear hfz89_1
              try clear hfz89_2
              try clear hfz89_3
              try clear hfz8_0
              try clear p2
              obtain ⟨kq, x110_107, rfl, HA, HJ107, HO_10, HO_438000, HO_445002, BK417, BK418, BK437, BK444, HB⟩ := hcut
              have hl10_107 := (Kd.R_reads' HO_10.out).1
              rw [hl10_107] at HO_10
              (try simp only [hl10_107])
              (try simp only [hl10_107] at BK417)
              (try simp only [hl10_107] at BK418)
              (try simp only [hl10_107] at BK437)
              (try simp only [hl10_107] at BK444)
              (try simp only [hl10_107] at HO_438000)
              (try simp only [hl10_107] at HO_445002)
              cases kq with
              | zero => exact absurd HA.out (by simp [laws_FnExactSnapActs.j2])
              | succ kj107 =>
               have H := HA.out
               clear HA
               simp only [laws_FnExactSnapActs.j2] at H
               by_cases c126 : x110_107 = true
               ·subst c126
                have H1 : (some false) = some r := by rw [if_pos rfl] at H; exact H
                clear H
                have H := H1
                clear H1
                exact absurd ((Option.some.inj H).trans HLT.out) (by decide)
               ·replace c126 := Bool.eq_false_iff.mpr c126
                subst c126
                have H1 : ((laws_heldActS.f kj107 t467 1).bind fun t483 => (if t483 < 0 then (some false) else (if t483 = t466 then (some true) else (some false)))) = some r := by rw [if_neg (show ¬ (false = true) by decide)] at H; exact H
                clear H
                have H := H1
                clear H1
                replace H := Option.bind_eq_some_iff.mp H
                obtain ⟨t483, A1270, H⟩ := H
                try dsimp only at H
                have A127 := Aside0.mk A1270
                clear A1270
                by_cases c128 : t483 < 0
                ·rw [if_pos c128] at H
                 have c128b0 : decide (t483 < 0) = true := decide_eq_true c128
                 clear c128
                 exact absurd ((Option.some.inj H).trans HLT.out) (by decide)
                ·rw [if_neg c128] at H
                 have c128b0 : decide (t483 < 0) = false := decide_eq_false c128
                 clear c128
                 by_cases c129 : t483 = t466
                 ·rw [if_pos c129] at H
                  have c129b0 : (t483 == t466) = true := beq_iff_eq.mpr c129
                  have c129b1 : (t483 != t466) = false := bne_eq_false_iff_eq.mpr c129
                  clear c129
                  obtain rfl := Option.some.inj H
                  go_wp2_with (first | ((with_reducible refine gate_callee (f := 14) rfl ?_); refine goesL_ (some 113) rfl rfl Tryz.func14 (by kernel_rfl) rfl #[.slice Ao109 t467.length co109, .int .i64 1] rfl zr ?_; (with_reducible refine (laws_heldActS.calls kj107 _ _ t467 1 t483 _ ?side1 ?side2 A127.out).mono ?_); (case side1 => repeat (first | exact (Kd.R_reads' HO_10.out).2.2 | (with_reducible refine Kd.C_alloc ?_ _) | (with_reducible refine Kd.C_drewN ?_ _) | (with_reducible refine Kd.C_drew ?_))); (case side2 => exact (Kd.R_reads' HO_10.out).2.1); rintro e w130 ⟨rfl, hb⟩; refine ⟨_, rfl, ?_⟩; replace HO_10 := am (Kd.R_below (rx HO_10.out) hb); replace HO_438000 := am (Kd.R_below (rx HO_438000.out) hb); replace HO_445002 := am (Kd.R_below (rx HO_445002.out) hb); replace BK417 := am (bb hb (kx BK417.out)); replace BK418 := am (bb hb (kx BK418.out)); replace BK437 := am (bb hb (kx BK437.out)); replace BK444 := am (bb hb (kx BK444.out)); replace HB := am (below_step (zb4 HB.out GE417.out GE418.out GE437.out GE444.out) hb); (try clear hb); (try clear hb2); (try clear hk); (try clear hi)))
                  go_ret
                  exact ⟨by first | rfl | (simp [errW_none, errW_some] <;> rfl) | (simp [*, errW_none, errW_some] <;> rfl), zb4 HB.out GE417.out GE418.out GE437.out GE444.out⟩
                 ·rw [if_neg c129] at H
                  have c129b0 : (t483 == t466) = false := beq_eq_false_iff_ne.mpr c129
                  have c129b1 : (t483 != t466) = true := bne_iff_ne.mpr c129
                  exact absurd ((Option.some.inj H).trans HLT.out) (by decide)
            ·rw [if_neg c104] at H
             have c104b0 : (t468 == t466) = false := beq_eq_false_iff_ne.mpr c104
             have c104b1 : (t468 != t466) = true := bne_iff_ne.mpr c104
             exact absurd ((Option.some.inj H).trans HLT.out) (by decide)
       ·replace c70 := Bool.eq_false_iff.mpr c70
        subst c70
        have H1 : (some false) = some r := by rw [if_neg (show ¬ (false = true) by decide)] at H; exact H
        clear H
        have H := H1
        clear H1
        exact absurd ((Option.some.inj H).trans HLT.out) (by decide)
      ·replace c67 := Bool.eq_false_iff.mpr c67
       subst c67
       have H1 : (some false) = some r := by rw [if_neg (show ¬ (false = true) by decide)] at H; exact H
       clear H
       have H := H1
       clear H1
       exact absurd ((Option.some.inj H).trans HLT.out) (by decide)

end Go.Proofs.YtogifkjkbfdocaaGreatDoor.QFnExactSnapActs
