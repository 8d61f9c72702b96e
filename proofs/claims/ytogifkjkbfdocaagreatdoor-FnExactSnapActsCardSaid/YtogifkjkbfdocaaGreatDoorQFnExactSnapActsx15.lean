/- Written by the kit's print.py, called by our own print2.sh with one import more; not by print.sh. -/
import Derived.Test.YtogifkjkbfdocaaGreatDoorQFnExactSnapActsx0
import Derived.Test.YtogifkjkbfdocaaGreatDoorQFnExactSnapActsx12
import Derived.Test.YtogifkjkbfdocaaGreatDoorQFnExactSnapActsx14
namespace Go.Proofs.YtogifkjkbfdocaaGreatDoor.QFnExactSnapActs
open Go.RowKit Go.Proofs.YtogifkjkbfdocaaGreatDoorW.PrintWords Go.Proofs.YtogifkjkbfdocaaGreatDoorW.PrintLast Go.Proofs.YtogifkjkbfdocaaGreatDoorW.PrintMore
attribute [local go_sem] max2_int min2_int max_two min_two max_three min_three max_four min_four   -- for this text's walks alone
open Go.Proofs.YtogifkjkbfdocaaGreatDoor.Laid
open Go.Proofs.YtogifkjkbfdocaaGreatDoor.Short
set_option linter.unusedVariables false
set_option linter.unusedSimpArgs false

/-! ### impl_SnapActs: function 23 -/
mutual
def impl_SnapActs.j0 : Nat → ByteArray → Bool → List (S63) → Int → Int → List Int → ByteArray → Option ((List (S67)) × Bool)
 | 0, _, _, _, _, _, _, _ => none
 | k + 1, x6, x24, x381000, x382000, x382001, x382002, x382003 => if x24 = true then (some (([] : List (S67)), false)) else ((some (([] : List (S67)) : List (S67))).bind fun y385 => ((impl_hasFile.f x381000 (⟨#[115, 43]⟩ : ByteArray)).bind fun t388 => (if t388 = true then (if y385.length < 2513169434916 then (impl_SnapActs.j1 k x6 (y385 ++ [(⟨4, (⟨#[115, 43]⟩ : ByteArray), (⟨#[]⟩ : ByteArray), (⟨#[]⟩ : ByteArray)⟩ : S67)]) x381000 x382000 x382001 x382002 x382003) else (none)) else (impl_SnapActs.j1 k x6 y385 x381000 x382000 x382001 x382002 x382003))))
def impl_SnapActs.j1 : Nat → ByteArray → List (S67) → List (S63) → Int → Int → List Int → ByteArray → Option ((List (S67)) × Bool)
 | 0, _, _, _, _, _, _, _ => none
 | k + 1, x6, x8, x381000, x382000, x382001, x382002, x382003 => impl_SnapActs.l0 k x6 x8 x381000 x382000 x382001 x382002 x382003
def impl_SnapActs.l0 : Nat → ByteArray → List (S67) → List (S63) → Int → Int → List Int → ByteArray → Option ((List (S67)) × Bool)
 | 0, _, _, _, _, _, _, _ => none
 | k + 1, x6, x8, x381000, x382000, x382001, x382002, x382003 => if x6.toList = ([] : List UInt8) then ((impl_SnapName.f x382000).bind fun t395 => ((some (([(⟨2, (⟨#[115, 43]⟩ : ByteArray), (⟨#[]⟩ : ByteArray), (⟨#[]⟩ : ByteArray)⟩ : S67), (⟨3, (⟨#[115, 43]⟩ : ByteArray), (⟨#[]⟩ : ByteArray), t395⟩ : S67)] : List (S67)) : List (S67))).bind fun y396 => (if x8.length + y396.length < 2513169434916 then (impl_SnapActs.l1 k (x8 ++ y396) t395 x381000 (x381000.length : Int) 0) else (none)))) else (if 0 ≤ (mn 60 (x6.size : Int)) then (if (mn 60 (x6.size : Int)) ≤ (x6.size : Int) then (if x8.length < 2513169434916 then (impl_SnapActs.l0 k (x6.extract ((mn 60 (x6.size : Int)) : Int).toNat x6.size) (x8 ++ [(⟨1, (⟨#[115, 43]⟩ : ByteArray), x6.extract 0 ((mn 60 (x6.size : Int)) : Int).toNat, (⟨#[]⟩ : ByteArray)⟩ : S67)]) x381000 x382000 x382001 x382002 x382003) else (none)) else (none)) else (none))
def impl_SnapActs.l1 : Nat → List (S67) → ByteArray → List (S63) → Int → Int → Option ((List (S67)) × Bool)
 | 0, _, _, _, _, _ => none
 | k + 1, x8, x10, x57, x58, x59 => if x59 < x58 then (if 0 ≤ x59 then (if x59 < (x57.length : Int) then ((impl_isSnap.f k ((rd_T63 x57 x59).f0) ((rd_T63 x57 x59).f1) ((rd_T63 x57 x59).f2)).bind fun t404 => (if t404 = true then (if ((rd_T63 x57 x59).f0).toList = x10.toList then (impl_SnapActs.l1 k x8 x10 x57 x58 (wrap64 (x59 + 1))) else (if x8.length < 2513169434916 then (impl_SnapActs.l1 k (x8 ++ [(⟨4, (rd_T63 x57 x59).f0, (⟨#[]⟩ : ByteArray), (⟨#[]⟩ : ByteArray)⟩ : S67)]) x10 x57 x58 (wrap64 (x59 + 1))) else (none))) else (impl_SnapActs.l1 k x8 x10 x57 x58 (wrap64 (x59 + 1))))) else (none)) else (none)) else (some (x8, true))
end
def impl_SnapActs.f (k : Nat) (l0_0 : List (S63)) (a1_0 : Int) (a1_1 : Int) (l1_2 : List Int) (a1_3 : ByteArray) : Option ((List (S67)) × Bool) := (impl_SnapText.f k a1_0 a1_1 l1_2 a1_3).bind fun bt382 => ((impl_DiskOk.f k l0_0).bind fun t384 => (if t384 = true then (impl_SnapActs.j0 k bt382.1 (!bt382.2) l0_0 a1_0 a1_1 l1_2 a1_3) else (impl_SnapActs.j0 k bt382.1 true l0_0 a1_0 a1_1 l1_2 a1_3)))
theorem impl_SnapActs.mono_l : ∀ k, (∀ y0 y1 y2 y3 y4 y5 y6, LeO (impl_SnapActs.j0 k y0 y1 y2 y3 y4 y5 y6) (impl_SnapActs.j0 (k + 1) y0 y1 y2 y3 y4 y5 y6)) ∧ (∀ y0 y1 y2 y3 y4 y5 y6, LeO (impl_SnapActs.j1 k y0 y1 y2 y3 y4 y5 y6) (impl_SnapActs.j1 (k + 1) y0 y1 y2 y3 y4 y5 y6)) ∧ (∀ y0 y1 y2 y3 y4 y5 y6, LeO (impl_SnapActs.l0 k y0 y1 y2 y3 y4 y5 y6) (impl_SnapActs.l0 (k + 1) y0 y1 y2 y3 y4 y5 y6)) ∧ (∀ y0 y1 y2 y3 y4, LeO (impl_SnapActs.l1 k y0 y1 y2 y3 y4) (impl_SnapActs.l1 (k + 1) y0 y1 y2 y3 y4))
 | 0 => ⟨fun _ _ _ _ _ _ _ r h => by simp [impl_SnapActs.j0] at h, fun _ _ _ _ _ _ _ r h => by simp [impl_SnapActs.j1] at h, fun _ _ _ _ _ _ _ r h => by simp [impl_SnapActs.l0] at h, fun _ _ _ _ _ r h => by simp [impl_SnapActs.l1] at h⟩
 | k + 1 => by
  obtain ⟨ih0, ih1, ih2, ih3⟩ := impl_SnapActs.mono_l k
  refine ⟨?_, ?_, ?_, ?_⟩
  ·intro y0 y1 y2 y3 y4 y5 y6
   unfold impl_SnapActs.j0
   repeat' first
   | (with_reducible exact ih0 _ _ _ _ _ _ _)
   | (with_reducible exact ih1 _ _ _ _ _ _ _)
   | (with_reducible exact ih2 _ _ _ _ _ _ _)
   | (with_reducible exact ih3 _ _ _ _ _)
   | (with_reducible exact impl_DiskOk.mono _ _)
   | (with_reducible exact impl_SnapText.mono _ _ _ _ _)
   | (with_reducible exact impl_isSnap.mono _ _ _ _)
   | (with_reducible exact LeO.refl _)
   | (with_reducible exact LeO.none _)
   | (with_reducible refine LeO.ite ?_ ?_)
   | (with_reducible refine LeO.bind ?_ (fun _ => ?_))
   | exact ih0 _ _ _ _ _ _ _
   | exact ih1 _ _ _ _ _ _ _
   | exact ih2 _ _ _ _ _ _ _
   | exact ih3 _ _ _ _ _
   | exact impl_DiskOk.mono _ _
   | exact impl_SnapText.mono _ _ _ _ _
   | exact impl_isSnap.mono _ _ _ _
   | exact LeO.none _
   | refine LeO.ite ?_ ?_
   | refine LeO.bind ?_ (fun _ => ?_)
  ·intro y0 y1 y2 y3 y4 y5 y6
   unfold impl_SnapActs.j1
   repeat' first
   | (with_reducible exact ih0 _ _ _ _ _ _ _)
   | (with_reducible exact ih1 _ _ _ _ _ _ _)
   | (with_reducible exact ih2 _ _ _ _ _ _ _)
   | (with_reducible exact ih3 _ _ _ _ _)
   | (with_reducible exact impl_DiskOk.mono _ _)
   | (with_reducible exact impl_SnapText.mono _ _ _ _ _)
   | (with_reducible exact impl_isSnap.mono _ _ _ _)
   | (with_reducible exact LeO.refl _)
   | (with_reducible exact LeO.none _)
   | (with_reducible refine LeO.ite ?_ ?_)
   | (with_reducible refine LeO.bind ?_ (fun _ => ?_))
   | exact ih0 _ _ _ _ _ _ _
   | exact ih1 _ _ _ _ _ _ _
   | exact ih2 _ _ _ _ _ _ _
   | exact ih3 _ _ _ _ _
   | exact impl_DiskOk.mono _ _
   | exact impl_SnapText.mono _ _ _ _ _
   | exact impl_isSnap.mono _ _ _ _
   | exact LeO.none _
   | refine LeO.ite ?_ ?_
   | refine LeO.bind ?_ (fun _ => ?_)
  ·intro y0 y1 y2 y3 y4 y5 y6
   unfold impl_SnapActs.l0
   repeat' first
   | (with_reducible exact ih0 _ _ _ _ _ _ _)
   | (with_reducible exact ih1 _ _ _ _ _ _ _)
   | (with_reducible exact ih2 _ _ _ _ _ _ _)
   | (with_reducible exact ih3 _ _ _ _ _)
   | (with_reducible exact impl_DiskOk.mono _ _)
   | (with_reducible exact impl_SnapText.mono _ _ _ _ _)
   | (with_reducible exact impl_isSnap.mono _ _ _ _)
   | (with_reducible exact LeO.refl _)
   | (with_reducible exact LeO.none _)
   | (with_reducible refine LeO.ite ?_ ?_)
   | (with_reducible refine LeO.bind ?_ (fun _ => ?_))
   | exact ih0 _ _ _ _ _ _ _
   | exact ih1 _ _ _ _ _ _ _
   | exact ih2 _ _ _ _ _ _ _
   | exact ih3 _ _ _ _ _
   | exact impl_DiskOk.mono _ _
   | exact impl_SnapText.mono _ _ _ _ _
   | exact impl_isSnap.mono _ _ _ _
   | exact LeO.none _
   | refine LeO.ite ?_ ?_
   | refine LeO.bind ?_ (fun _ => ?_)
  ·intro y0 y1 y2 y3 y4
   unfold impl_SnapActs.l1
   repeat' first
   | (with_reducible exact ih0 _ _ _ _ _ _ _)
   | (with_reducible exact ih1 _ _ _ _ _ _ _)
   | (with_reducible exact ih2 _ _ _ _ _ _ _)
   | (with_reducible exact ih3 _ _ _ _ _)
   | (with_reducible exact impl_DiskOk.mono _ _)
   | (with_reducible exact impl_SnapText.mono _ _ _ _ _)
   | (with_reducible exact impl_isSnap.mono _ _ _ _)
   | (with_reducible exact LeO.refl _)
   | (with_reducible exact LeO.none _)
   | (with_reducible refine LeO.ite ?_ ?_)
   | (with_reducible refine LeO.bind ?_ (fun _ => ?_))
   | exact ih0 _ _ _ _ _ _ _
   | exact ih1 _ _ _ _ _ _ _
   | exact ih2 _ _ _ _ _ _ _
   | exact ih3 _ _ _ _ _
   | exact impl_DiskOk.mono _ _
   | exact impl_SnapText.mono _ _ _ _ _
   | exact impl_isSnap.mono _ _ _ _
   | exact LeO.none _
   | refine LeO.ite ?_ ?_
   | refine LeO.bind ?_ (fun _ => ?_)
theorem impl_SnapActs.mono : ∀ a0 a1 a2 a3 a4 k, LeO (impl_SnapActs.f k a0 a1 a2 a3 a4) (impl_SnapActs.f (k + 1) a0 a1 a2 a3 a4) := by
 intro a0 a1 a2 a3 a4 k
 obtain ⟨ih0, ih1, ih2, ih3⟩ := impl_SnapActs.mono_l k
 unfold impl_SnapActs.f
 repeat' first
   | (with_reducible exact ih0 _ _ _ _ _ _ _)
   | (with_reducible exact ih1 _ _ _ _ _ _ _)
   | (with_reducible exact ih2 _ _ _ _ _ _ _)
   | (with_reducible exact ih3 _ _ _ _ _)
   | (with_reducible exact impl_DiskOk.mono _ _)
   | (with_reducible exact impl_SnapText.mono _ _ _ _ _)
   | (with_reducible exact impl_isSnap.mono _ _ _ _)
   | (with_reducible exact LeO.refl _)
   | (with_reducible exact LeO.none _)
   | (with_reducible refine LeO.ite ?_ ?_)
   | (with_reducible refine LeO.bind ?_ (fun _ => ?_))
   | exact ih0 _ _ _ _ _ _ _
   | exact ih1 _ _ _ _ _ _ _
   | exact ih2 _ _ _ _ _ _ _
   | exact ih3 _ _ _ _ _
   | exact impl_DiskOk.mono _ _
   | exact impl_SnapText.mono _ _ _ _ _
   | exact impl_isSnap.mono _ _ _ _
   | exact LeO.none _
   | refine LeO.ite ?_ ?_
   | refine LeO.bind ?_ (fun _ => ?_)
set_option maxHeartbeats 8000000 in
set_option maxRecDepth 100000 in
theorem impl_SnapActs.calls (k : Nat) (A0_0 : Option Addr) (c0_0 : Nat) (l0_0 : List (S63)) (a1_0 : Int) (a1_1 : Int) (A1_2 : Option Addr) (c1_2 : Nat) (l1_2 : List Int) (a1_3 : ByteArray) (r1 : List (S67)) (r2 : Bool) (w : World) (hr0_0 : Kd.C k63 w A0_0 l0_0.length l0_0) (hc0_0 : l0_0.length ≤ c0_0) (hr1_2 : Kd.C (Kd.int .i64) w A1_2 l1_2.length l1_2) (hc1_2 : l1_2.length ≤ c1_2) (h : impl_SnapActs.f k l0_0 a1_0 a1_1 l1_2 a1_3 = some (r1, r2)) (hLW : LaidW w) :
  Calls Tryz.prog 23 #[.agg #[.slice A0_0 l0_0.length c0_0], .agg #[.int .i64 a1_0, .int .i64 a1_1, .slice A1_2 l1_2.length c1_2, .string a1_3]] w fun e w' => ∃ v0_ : Value, e = .returned (.tuple #[v0_, .bool r2]) ∧ Kd.R k67 67 w' w.heap.size (fun _ => True) v0_ r1 ∧ Below w.heap.size w w' := by
 have HLW := Aside0.mk hLW
 clear hLW
 have hu30 := Tryz.underlying30
 have hu52 := Tryz.underlying52
 have hu67 := Tryz.underlying67
 have hu63 := Tryz.underlying63
 have HR0_0 := Aside0.mk hr0_0
 have HC0_0 := Aside0.mk hc0_0
 clear hr0_0 hc0_0
 have HR1_2 := Aside0.mk hr1_2
 have HC1_2 := Aside0.mk hc1_2
 clear hr1_2 hc1_2
 have HB := Aside0.mk (Below.refl w.heap.size w)
 have H : ((impl_SnapText.f k a1_0 a1_1 l1_2 a1_3).bind fun bt382 => ((impl_DiskOk.f k l0_0).bind fun t384 => (if t384 = true then (impl_SnapActs.j0 k bt382.1 (!bt382.2) l0_0 a1_0 a1_1 l1_2 a1_3) else (impl_SnapActs.j0 k bt382.1 true l0_0 a1_0 a1_1 l1_2 a1_3)))) = some (r1, r2) := h
 clear h
 replace H := Option.bind_eq_some_iff.mp H
 obtain ⟨⟨t382, t383⟩, A30, H⟩ := H
 try dsimp only at H
 have A3 := Aside0.mk A30
 clear A30
 have HC4 := Aside0.mk H
 clear H
 go_enter Tryz.func23, Tryz.ntmps23
 go_upto_region 2 with (first | ((with_reducible refine gate_dst (N := 2) rfl ?_); refine box_event ?hg (N := 2) ?hd (cs := #[.slice A0_0 l0_0.length c0_0]) (t := 30) ?hr ?_; (case hd => rfl); (case hg => rfl); (case hr => first | (go_simp; done) | (go_simp; rfl)); intro gb380 hg w5 hbox hb; have BK380 := am (hbox); have GW380 := zge hg (zb0 HB.out); have GE380 := zge hg (zb0 HB.out); replace HB := am (below_step (zb0 HB.out) hb); clear hb hbox hg) | ((with_reducible refine gate_dst (N := 3) rfl ?_); refine box_event ?hg (N := 3) ?hd (cs := #[.int .i64 a1_0, .int .i64 a1_1, .slice A1_2 l1_2.length c1_2, .string a1_3]) (t := 52) ?hr ?_; (case hd => rfl); (case hg => rfl); (case hr => first | (go_simp; done) | (go_simp; rfl)); intro gb381 hg w6 hbox hb; have BK381 := am (hbox); have GW381 := zge hg (zb1 HB.out GE380.out); have GE381 := zge hg (zb1 HB.out GE380.out); have NB380_381 := znl hg (kx BK380.out); have NB381_380 := zng hg (kx BK380.out); replace BK380 := am (bb hb (kx BK380.out)); replace HB := am (below_step (zb1 HB.out GE380.out) hb); clear hb hbox hg; have hnb7 := NB381_380.out; have hnc7 := NB380_381.out; obtain ⟨hcz8_0, hcz8_1, hcz8_2, hcz8_3, hfz8_0, hfz8_1, hfz8_2, hfz8_3⟩ := zc4 BK381.out) | ((with_reducible refine gate_callee (f := 59) rfl ?_); refine goesL_ (some 15) rfl rfl Tryz.func59 (by kernel_rfl) rfl #[.agg #[.int .i64 a1_0, .int .i64 a1_1, .slice A1_2 l1_2.length c1_2, .string a1_3]] rfl zr ?_; (with_reducible refine (impl_SnapText.calls k a1_0 a1_1 _ _ l1_2 a1_3 t382 t383 _ ?side1 ?side2 A3.out).mono ?_); (case side1 => repeat (first | exact (Kd.C_below HR1_2.out HB.out) | (with_reducible refine Kd.C_alloc ?_ _) | (with_reducible refine Kd.C_drewN ?_ _) | (with_reducible refine Kd.C_drew ?_))); (case side2 => exact HC1_2.out); rintro e w9 ⟨rfl, hb⟩; refine ⟨_, rfl, ?_⟩; replace BK380 := am (bb hb (kx BK380.out)); replace BK381 := am (bb hb (kx BK381.out)); replace HB := am (below_step (zb2 HB.out GE380.out GE381.out) hb); (try clear hb); (try clear hb2); (try clear hk); (try clear hi)))
 (try simp only [Act.put, List.setIfInBounds_toArray, List.set_cons_zero, List.set_cons_succ])
 go_cut [24] (fun v24 wc => ∃ (kq : Nat) (x24_3 : Bool), v24 = .bool x24_3 ∧ Aside0 (impl_SnapActs.j0 kq t382 x24_3 l0_0 a1_0 a1_1 l1_2 a1_3 = some (r1, r2)) ∧ Aside0 (kq ≤ k) ∧ Aside0 (wc.heap[gb380]? = some (.cells #[(.slice A0_0 l0_0.length c0_0)] 30 (0, 0))) ∧ Aside0 (wc.heap[gb381]? = some (.cells #[.int .i64 a1_0, .int .i64 a1_1, (.slice A1_2 l1_2.length c1_2), .string a1_3] 52 (0, 0))) ∧ Aside0 (Below w.heap.size w wc))
 case first =>
  have H := HC4.out
  clear HC4
  replace H := Option.bind_eq_some_iff.mp H
  obtain ⟨t384, A100, H⟩ := H
  try dsimp only at H
  have A10 := Aside0.mk A100
  clear A100
  by_cases c11 : t384 = true
  ·subst c11
   have H1 : (impl_SnapActs.j0 k t382 (!t383) l0_0 a1_0 a1_1 l1_2 a1_3) = some (r1, r2) := by rw [if_pos rfl] at H; exact H
   clear H
   have H := H1
   clear H1
   have H' := Aside0.mk H
   clear H
   have hnb12 := NB380_381.out
   have hnc12 := NB381_380.out
   obtain ⟨hcz13_0, hfz13_0⟩ := zc1 BK380.out
   go_wp2_with (first | ((with_reducible refine gate_callee (f := 47) rfl ?_); refine goesL_ (some 19) rfl rfl Tryz.func47 (by kernel_rfl) rfl #[.agg #[.slice A0_0 l0_0.length c0_0]] rfl zr ?_; (with_reducible refine (impl_DiskOk.calls k _ _ l0_0 true _ ?side1 ?side2 A10.out).mono ?_); (case side1 => repeat (first | exact (Kd.C_below HR0_0.out HB.out) | (with_reducible refine Kd.C_alloc ?_ _) | (with_reducible refine Kd.C_drewN ?_ _) | (with_reducible refine Kd.C_drew ?_))); (case side2 => exact HC0_0.out); rintro e w14 ⟨rfl, hb⟩; refine ⟨_, rfl, ?_⟩; replace BK380 := am (bb hb (kx BK380.out)); replace BK381 := am (bb hb (kx BK381.out)); replace HB := am (below_step (zb2 HB.out GE380.out GE381.out) hb); (try clear hb); (try clear hb2); (try clear hk); (try clear hi)))
   go_meet
   case rel => exact ⟨_, (!t383), (by first | rfl | (simp; done) | (simp [*]; done)), H', ⟨by first | omega | exact Nat.le_refl _⟩, ⟨kx BK380.out⟩, ⟨kx BK381.out⟩, ⟨zb2 HB.out GE380.out GE381.out⟩⟩
  ·replace c11 := Bool.eq_false_iff.mpr c11
   subst c11
   have H1 : (impl_SnapActs.j0 k t382 true l0_0 a1_0 a1_1 l1_2 a1_3) = some (r1, r2) := by rw [if_neg (show ¬ (false = true) by decide)] at H; exact H
   clear H
   have H := H1
   clear H1
   have H' := Aside0.mk H
   clear H
   have hnb15 := NB380_381.out
   have hnc15 := NB381_380.out
   obtain ⟨hcz16_0, hfz16_0⟩ := zc1 BK380.out
   go_wp2_with (first | ((with_reducible refine gate_callee (f := 47) rfl ?_); refine goesL_ (some 19) rfl rfl Tryz.func47 (by kernel_rfl) rfl #[.agg #[.slice A0_0 l0_0.length c0_0]] rfl zr ?_; (with_reducible refine (impl_DiskOk.calls k _ _ l0_0 false _ ?side1 ?side2 A10.out).mono ?_); (case side1 => repeat (first | exact (Kd.C_below HR0_0.out HB.out) | (with_reducible refine Kd.C_alloc ?_ _) | (with_reducible refine Kd.C_drewN ?_ _) | (with_reducible refine Kd.C_drew ?_))); (case side2 => exact HC0_0.out); rintro e w17 ⟨rfl, hb⟩; refine ⟨_, rfl, ?_⟩; replace BK380 := am (bb hb (kx BK380.out)); replace BK381 := am (bb hb (kx BK381.out)); replace HB := am (below_step (zb2 HB.out GE380.out GE381.out) hb); (try clear hb); (try clear hb2); (try clear hk); (try clear hi)))
   go_meet
   case rel => exact ⟨_, (true), (by first | rfl | (simp; done) | (simp [*]; done)), H', ⟨by first | omega | exact Nat.le_refl _⟩, ⟨kx BK380.out⟩, ⟨kx BK381.out⟩, ⟨zb2 HB.out GE380.out GE381.out⟩⟩
 case rest =>
  clear HC4
  try clear c1
  try clear c2
  try clear p2
  try clear c4
  try clear c5
  try clear c7
  try clear c11
  try clear c12
  try clear c15
  try clear hcz13_0
  try clear hcz16_0
  try clear hcz8_0
  try clear hcz8_1
  try clear hcz8_2
  try clear hcz8_3
  try clear hfz13_0
  try clear hfz16_0
  try clear hfz8_0
  try clear hfz8_1
  try clear hfz8_2
  try clear hfz8_3
  obtain ⟨kq, x24_3, rfl, HA, HJ3, BK380, BK381, HB⟩ := hcut
  cases kq with
  | zero => exact absurd HA.out (by simp [impl_SnapActs.j0])
  | succ kj3 =>
   have H := HA.out
   clear HA
   simp only [impl_SnapActs.j0] at H
   by_cases c18 : x24_3 = true
   ·subst c18
    have H1 : (some (([] : List (S67)), false)) = some (r1, r2) := by rw [if_pos rfl] at H; exact H
    clear H
    have H := H1
    clear H1
    simp only [Option.some.injEq, Prod.mk.injEq] at H
    obtain ⟨rfl, rfl⟩ := H
    go_wp2
    go_ret2
    exact ⟨_, by first | rfl | (simp [errW_none, errW_some] <;> rfl) | (simp [*, errW_none, errW_some] <;> rfl), by first | exact Kd.R_nil _ _ _ _ _ | exact Kd.N_nil _ _ _ _ _ | exact Kd.V_nil _ _ _ _ _ | exact Kd.Q_nil _ _ _ _ _ | exact Kd.S_nil _ _ _ _ _, zb2 HB.out GE380.out GE381.out⟩
   ·replace c18 := Bool.eq_false_iff.mpr c18
    subst c18
    have H1 : ((some (([] : List (S67)) : List (S67))).bind fun y385 => ((impl_hasFile.f l0_0 (⟨#[115, 43]⟩ : ByteArray)).bind fun t388 => (if t388 = true then (if y385.length < 2513169434916 then (impl_SnapActs.j1 kj3 t382 (y385 ++ [(⟨4, (⟨#[115, 43]⟩ : ByteArray), (⟨#[]⟩ : ByteArray), (⟨#[]⟩ : ByteArray)⟩ : S67)]) l0_0 a1_0 a1_1 l1_2 a1_3) else (none)) else (impl_SnapActs.j1 kj3 t382 y385 l0_0 a1_0 a1_1 l1_2 a1_3)))) = some (r1, r2) := by rw [if_neg (show ¬ (false = true) by decide)] at H; exact H
    clear H
    have H := H1
    clear H1
    obtain ⟨y385, hy385⟩ : ∃ y_ : List (S67), y_ = (([] : List (S67))) := ⟨_, rfl⟩
    replace H : ((impl_hasFile.f l0_0 (⟨#[115, 43]⟩ : ByteArray)).bind fun t388 => (if t388 = true then (if y385.length < 2513169434916 then (impl_SnapActs.j1 kj3 t382 (y385 ++ [(⟨4, (⟨#[115, 43]⟩ : ByteArray), (⟨#[]⟩ : ByteArray), (⟨#[]⟩ : ByteArray)⟩ : S67)]) l0_0 a1_0 a1_1 l1_2 a1_3) else (none)) else (impl_SnapActs.j1 kj3 t382 y385 l0_0 a1_0 a1_1 l1_2 a1_3))) = some (r1, r2) := by first | (rw [hy385]; with_reducible exact H) | (have H2_ := (Option.bind_some _ _).symm.trans H; rw [hy385]; with_reducible exact H2_) | (have H2_ := (Option.bind_some _ _).symm.trans H; with_reducible exact H2_) | with_reducible exact H | (rw [hy385]; exact H) | exact H
    have Ny385 := Aside0.mk hy385
    clear hy385
    replace H := Option.bind_eq_some_iff.mp H
    obtain ⟨t388, A190, H⟩ := H
    try dsimp only at H
    have A19 := Aside0.mk A190
    clear A190
    have HC20 := Aside0.mk H
    clear H
    go_upto_if 27 with (first | ((with_reducible refine gate_dst (N := 25) rfl ?_); refine Kd.R_lit k67 _ 67 ?hg (N := 25) ?hd (xs := ([] : List (S67))) (inner := []) (ok := fun _ => True) (okp := fun _ => True) ?hr ?hp (fun _ hk => hk) trivial (Below.refl _ _) (Nat.le_refl _) (by simp) ?_; (case hd => rfl); (case hg => rfl); (case hr => first | (go_simp; done) | (go_simp; rfl)); (case hp => exact (Reps.none _ _)); intro v386 w21 ho22 hb hg_ hnew_; clear hg_ hnew_; (first | rw [← Ny385.out] at ho22 | (simp only [Int.reduceToNat] at ho22; rw [← Ny385.out] at ho22)); have HO387 := am (Kd.R_lower ho22 (below_size (zb2 HB.out GE380.out GE381.out))); replace BK380 := am (bb hb (kx BK380.out)); replace BK381 := am (bb hb (kx BK381.out)); replace HB := am (below_step (zb2 HB.out GE380.out GE381.out) hb); clear hb ho22; have hnb23 := NB380_381.out; have hnc23 := NB381_380.out; obtain ⟨hcz24_0, hfz24_0⟩ := zc1 BK380.out) | ((with_reducible refine gate_callee (f := 60) rfl ?_); refine goesL_ (some 27) rfl rfl Tryz.func60 (by kernel_rfl) rfl #[.agg #[.slice A0_0 l0_0.length c0_0], .string (⟨#[115, 43]⟩ : ByteArray)] rfl zr ?_; (with_reducible refine (impl_hasFile.calls _ _ l0_0 (⟨#[115, 43]⟩ : ByteArray) t388 _ ?side1 ?side2 A19.out).mono ?_); (case side1 => repeat (first | exact (Kd.C_below HR0_0.out HB.out) | (with_reducible refine Kd.C_alloc ?_ _) | (with_reducible refine Kd.C_drewN ?_ _) | (with_reducible refine Kd.C_drew ?_))); (case side2 => exact HC0_0.out); rintro e w25 ⟨rfl, hb⟩; refine ⟨_, rfl, ?_⟩; replace HO387 := am (Kd.R_below (rx HO387.out) hb); replace BK380 := am (bb hb (kx BK380.out)); replace BK381 := am (bb hb (kx BK381.out)); replace HB := am (below_step (zb2 HB.out GE380.out GE381.out) hb); (try clear hb); (try clear hb2); (try clear hk); (try clear hi)))
    (try simp only [Act.put, List.setIfInBounds_toArray, List.set_cons_zero, List.set_cons_succ])
    go_cut [8] (fun v8 wc => ∃ (kq : Nat) (x8_19 : List (S67)), Aside0 (impl_SnapActs.j1 kq t382 x8_19 l0_0 a1_0 a1_1 l1_2 a1_3 = some (r1, r2)) ∧ Aside0 (kq ≤ kj3) ∧ Aside0 (Kd.R k67 67 wc w.heap.size (fun _ => True) v8 x8_19) ∧ Aside0 (wc.heap[gb380]? = some (.cells #[(.slice A0_0 l0_0.length c0_0)] 30 (0, 0))) ∧ Aside0 (wc.heap[gb381]? = some (.cells #[.int .i64 a1_0, .int .i64 a1_1, (.slice A1_2 l1_2.length c1_2), .string a1_3] 52 (0, 0))) ∧ Aside0 (Below w.heap.size w wc))
    case first =>
     have H := HC20.out
     clear HC20
     by_cases c26 : t388 = true
     ·subst c26
      have H1 : (if y385.length < 2513169434916 then (impl_SnapActs.j1 kj3 t382 (y385 ++ [(⟨4, (⟨#[115, 43]⟩ : ByteArray), (⟨#[]⟩ : ByteArray), (⟨#[]⟩ : ByteArray)⟩ : S67)]) l0_0 a1_0 a1_1 l1_2 a1_3) else (none)) = some (r1, r2) := by rw [if_pos rfl] at H; exact H
      clear H
      have H := H1
      clear H1
      by_cases c27 : y385.length < 2513169434916
      ·rw [if_pos c27] at H
       have LMc27 := Aside0.mk c27
       clear c27
       obtain ⟨y389, hy389⟩ : ∃ y_ : List (S67), y_ = (y385 ++ [(⟨4, (⟨#[115, 43]⟩ : ByteArray), (⟨#[]⟩ : ByteArray), (⟨#[]⟩ : ByteArray)⟩ : S67)]) := ⟨_, rfl⟩
       replace H : (impl_SnapActs.j1 kj3 t382 y389 l0_0 a1_0 a1_1 l1_2 a1_3) = some (r1, r2) := by first | (rw [hy389]; with_reducible exact H) | (have H2_ := (Option.bind_some _ _).symm.trans H; rw [hy389]; with_reducible exact H2_) | (have H2_ := (Option.bind_some _ _).symm.trans H; with_reducible exact H2_) | with_reducible exact H | (rw [hy389]; exact H) | exact H
       have Ny389 := Aside0.mk hy389
       clear hy389
       have H' := Aside0.mk H
       clear H
       go_wp2_with (first | ((with_reducible refine gate_builtin (b := .append) (xs := #[.tmp 28, .tmp 30]) rfl ?_); at_builtin; refine Kd.R_append k67 (w0 := w) w.heap.size rfl (.tmp 28) (.tmp 30) 26 67 (.agg #[(.int .i64 0), (.string ⟨#[]⟩), (.string ⟨#[]⟩), (.string ⟨#[]⟩)]) 56 rfl Tryz.underlying26 info67 rfl (by decide) (by omega) v386 y385 (⟨4, (⟨#[115, 43]⟩ : ByteArray), (⟨#[]⟩ : ByteArray), (⟨#[]⟩ : ByteArray)⟩ : S67) [.int .i64 4, .string (⟨#[115, 43]⟩ : ByteArray), .string (⟨#[]⟩ : ByteArray), .string (⟨#[]⟩ : ByteArray)] (fun _ => True) (fun _ => False) rfl rfl ?aP (fun _ hk => hk.elim) ?aF ?aO ?aB ?aS ?aL ?_; (case aP => exact k67_mkM _ _ _ (⟨4, (⟨#[115, 43]⟩ : ByteArray), (⟨#[]⟩ : ByteArray), (⟨#[]⟩ : ByteArray)⟩ : S67)); (case aB => exact (zb2 HB.out GE380.out GE381.out)); (case aF => exact (fun _ _ => trivial)); (case aO => exact (rx HO387.out)); (case aS => exact (below_size (zb2 HB.out GE380.out GE381.out))); (case aL => have := LMc27.out; omega); intro v390 w28 ho hb hg hat; rw [← Ny389.out] at ho; have HO391 := am (ho); replace BK380 := am (blk_grown (g := gb380) (o := .cells #[.slice A0_0 l0_0.length c0_0] 30 (0, 0)) (kx BK380.out) hg (Kd.R_ne HO387.out BK380.out (by decide))); replace BK381 := am (blk_grown (g := gb381) (o := .cells #[.int .i64 a1_0, .int .i64 a1_1, .slice A1_2 l1_2.length c1_2, .string a1_3] 52 (0, 0)) (kx BK381.out) hg (Kd.R_ne HO387.out BK381.out (by decide))); replace HB := am (hb); clear HO387; clear ho hb hg hat))
       go_meet
       case rel => exact ⟨_, (y389), H', ⟨by have := HJ3.out; first | omega | exact Nat.le_refl _⟩, ⟨rx HO391.out⟩, ⟨kx BK380.out⟩, ⟨kx BK381.out⟩, ⟨zb2 HB.out GE380.out GE381.out⟩⟩
      ·rw [if_neg c27] at H
       exact absurd H (by simp)
     ·replace c26 := Bool.eq_false_iff.mpr c26
      subst c26
      have H1 : (impl_SnapActs.j1 kj3 t382 y385 l0_0 a1_0 a1_1 l1_2 a1_3) = some (r1, r2) := by rw [if_neg (show ¬ (false = true) by decide)] at H; exact H
      clear H
      have H := H1
      clear H1
      have H' := Aside0.mk H
      clear H
      go_wp2
      go_meet
      case rel => exact ⟨_, (y385), H', ⟨by have := HJ3.out; first | omega | exact Nat.le_refl _⟩, ⟨rx HO387.out⟩, ⟨kx BK380.out⟩, ⟨kx BK381.out⟩, ⟨zb2 HB.out GE380.out GE381.out⟩⟩
    case rest =>
     clear HC20
     try clear c1
     try clear c2
     try clear p2
     try clear c4
     try clear c5
     try clear c6
     try clear c7
     try clear c11
     try clear c12
     try clear c15
     try clear c18
     try clear c23
     try clear c26
     try clear c27
     try clear hcz13_0
     try clear hcz16_0
     try clear hcz24_0
     try clear hcz8_0
     try clear hcz8_1
     try clear hcz8_2
     try clear hcz8_3
     try clear hfz13_0
     try clear hfz16_0
     try clear hfz24_0
     try clear hfz8_0
     try clear hfz8_1
     try clear hfz8_2
     try clear hfz8_3
     try clear p2
     obtain ⟨kq, x8_19, HA, HJ19, HO_8, BK380, BK381, HB⟩ := hcut
     cases kq with
     | zero => exact absurd HA.out (by simp [impl_SnapActs.j1])
     | succ kj19 =>
      have H := HA.out
      clear HA
      simp only [impl_SnapActs.j1] at H
      have H' := Aside0.mk H
      clear H
      go_wp2
      go_loopg [6, 8] kj19 (fun kq v6 v8 w' => ∃ (x6_3 : ByteArray) (x8_3 : List (S67)), v6 = .string x6_3 ∧ Aside0 (impl_SnapActs.l0 kq x6_3 x8_3 l0_0 a1_0 a1_1 l1_2 a1_3 = some (r1, r2)) ∧ Aside0 (kq ≤ kj19) ∧ Aside0 (Kd.R k67 67 w' w.heap.size (fun _ => True) v8 x8_3) ∧ Aside0 (w'.heap[gb380]? = some (.cells #[(.slice A0_0 l0_0.length c0_0)] 30 (0, 0))) ∧ Aside0 (w'.heap[gb381]? = some (.cells #[.int .i64 a1_0, .int .i64 a1_1, (.slice A1_2 l1_2.length c1_2), .string a1_3] 52 (0, 0))) ∧ Aside0 (Below w.heap.size w w'))
      case atStart => exact ⟨(t382), (x8_19), (by first | rfl | (simp; done) | (simp [*]; done)), H', ⟨Nat.le_refl _⟩, ⟨rx HO_8.out⟩, ⟨kx BK380.out⟩, ⟨kx BK381.out⟩, ⟨zb2 HB.out GE380.out GE381.out⟩⟩
      case round =>
       clear H'
       try clear c1
       try clear c2
       try clear p2
       try clear c4
       try clear c5
       try clear c6
       try clear c7
       try clear c11
       try clear c12
       try clear c15
       try clear c18
       try clear c23
       try clear c26
       try clear c27
       try clear hcz13_0
       try clear hcz16_0
       try clear hcz24_0
       try clear hcz8_0
       try clear hcz8_1
       try clear hcz8_2
       try clear hcz8_3
       try clear hfz13_0
       try clear hfz16_0
       try clear hfz24_0
       try clear hfz8_0
       try clear hfz8_1
       try clear hfz8_2
       try clear hfz8_3
       try clear p2
       obtain ⟨x6_3, x8_3, rfl, HA, HK3, HO_8, BK380, BK381, HB⟩ := hrel
       cases gk with
       | zero => exact absurd HA.out (by simp [impl_SnapActs.l0])
       | succ k3 =>
        have H := HA.out
        clear HA
        simp only [impl_SnapActs.l0] at H
        by_cases c29 : x6_3.toList = ([] : List UInt8)
        ·rw [if_pos c29] at H
         have c29b0 : (x6_3.toList == ([] : List UInt8)) = true := beq_iff_eq.mpr c29
         have c29b1 : (x6_3.toList != ([] : List UInt8)) = false := bne_eq_false_iff_eq.mpr c29
         clear c29
         replace H := Option.bind_eq_some_iff.mp H
         obtain ⟨t395, A300, H⟩ := H
         try dsimp only at H
         have A30 := Aside0.mk A300
         clear A300
         obtain ⟨y396, hy396⟩ : ∃ y_ : List (S67), y_ = (([(⟨2, (⟨#[115, 43]⟩ : ByteArray), (⟨#[]⟩ : ByteArray), (⟨#[]⟩ : ByteArray)⟩ : S67), (⟨3, (⟨#[115, 43]⟩ : ByteArray), (⟨#[]⟩ : ByteArray), t395⟩ : S67)] : List (S67))) := ⟨_, rfl⟩
         replace H : (if x8_3.length + y396.length < 2513169434916 then (impl_SnapActs.l1 k3 (x8_3 ++ y396) t395 l0_0 (l0_0.length : Int) 0) else (none)) = some (r1, r2) := by first | (rw [hy396]; with_reducible exact H) | (have H2_ := (Option.bind_some _ _).symm.trans H; rw [hy396]; with_reducible exact H2_) | (have H2_ := (Option.bind_some _ _).symm.trans H; with_reducible exact H2_) | with_reducible exact H | (rw [hy396]; exact H) | exact H
         have Ny396 := Aside0.mk hy396
         clear hy396
         by_cases c31 : x8_3.length + y396.length < 2513169434916
         ·rw [if_pos c31] at H
          have LMc31 := Aside0.mk c31
          clear c31
          obtain ⟨y399, hy399⟩ : ∃ y_ : List (S67), y_ = (x8_3 ++ y396) := ⟨_, rfl⟩
          replace H : (impl_SnapActs.l1 k3 y399 t395 l0_0 (l0_0.length : Int) 0) = some (r1, r2) := by first | (rw [hy399]; with_reducible exact H) | (have H2_ := (Option.bind_some _ _).symm.trans H; rw [hy399]; with_reducible exact H2_) | (have H2_ := (Option.bind_some _ _).symm.trans H; with_reducible exact H2_) | with_reducible exact H | (rw [hy399]; exact H) | exact H
          have Ny399 := Aside0.mk hy399
          clear hy399
          have H' := Aside0.mk H
          clear H
          have hnb32 := NB381_380.out
          have hnc32 := NB380_381.out
          obtain ⟨hcz33_0, hcz33_1, hcz33_2, hcz33_3, hfz33_0, hfz33_1, hfz33_2, hfz33_3⟩ := zc4 BK381.out
          go_wp2_with (first | ((with_reducible refine gate_callee (f := 33) rfl ?_); refine goesL_ (some 49) rfl rfl Tryz.func33 (by kernel_rfl) rfl #[.int .i64 a1_0] rfl zr ?_; (with_reducible refine (impl_SnapName.calls a1_0 t395 _ A30.out ?laid).mono ?_); (case laid => exact LaidW.later HLW.out (zb2 HB.out GE380.out GE381.out)); rintro e w34 ⟨rfl, hb⟩; refine ⟨_, rfl, ?_⟩; replace HO_8 := am (Kd.R_below (rx HO_8.out) hb); replace BK380 := am (bb hb (kx BK380.out)); replace BK381 := am (bb hb (kx BK381.out)); replace HB := am (below_step (zb2 HB.out GE380.out GE381.out) hb); (try clear hb); (try clear hb2); (try clear hk); (try clear hi)) | ((with_reducible refine gate_dst (N := 54) rfl ?_); refine Kd.R_lit k67 _ 67 ?hg (N := 54) ?hd (xs := ([(⟨2, (⟨#[115, 43]⟩ : ByteArray), (⟨#[]⟩ : ByteArray), (⟨#[]⟩ : ByteArray)⟩ : S67), (⟨3, (⟨#[115, 43]⟩ : ByteArray), (⟨#[]⟩ : ByteArray), t395⟩ : S67)] : List (S67))) (inner := [.int .i64 2, .string (⟨#[115, 43]⟩ : ByteArray), .string (⟨#[]⟩ : ByteArray), .string (⟨#[]⟩ : ByteArray), .int .i64 3, .string (⟨#[115, 43]⟩ : ByteArray), .string (⟨#[]⟩ : ByteArray), .string t395]) (ok := fun _ => True) (okp := fun _ => True) ?hr ?hp (fun _ hk => hk) trivial (Below.refl _ _) (Nat.le_refl _) (by simp) ?_; (case hd => rfl); (case hg => rfl); (case hr => first | (go_simp; done) | (go_simp; rfl)); (case hp => exact (Reps.c4 (show Kd.M k67 _ _ _ (⟨2, (⟨#[115, 43]⟩ : ByteArray), (⟨#[]⟩ : ByteArray), (⟨#[]⟩ : ByteArray)⟩ : S67) [.int .i64 2, .string (⟨#[115, 43]⟩ : ByteArray), .string (⟨#[]⟩ : ByteArray), .string (⟨#[]⟩ : ByteArray)] from (k67_mkM _ _ _ (⟨2, (⟨#[115, 43]⟩ : ByteArray), (⟨#[]⟩ : ByteArray), (⟨#[]⟩ : ByteArray)⟩ : S67) )) (Reps.c4 (show Kd.M k67 _ _ _ (⟨3, (⟨#[115, 43]⟩ : ByteArray), (⟨#[]⟩ : ByteArray), t395⟩ : S67) [.int .i64 3, .string (⟨#[115, 43]⟩ : ByteArray), .string (⟨#[]⟩ : ByteArray), .string t395] from (k67_mkM _ _ _ (⟨3, (⟨#[115, 43]⟩ : ByteArray), (⟨#[]⟩ : ByteArray), t395⟩ : S67) )) (Reps.none _ _)))); intro v397 w35 ho36 hb hg_ hnew_; clear hg_ hnew_; (first | rw [← Ny396.out] at ho36 | (simp only [Int.reduceToNat] at ho36; rw [← Ny396.out] at ho36)); have HO398 := am (Kd.R_lower (Kd.R_new' ho36 (Kd.R_lt (rx HO_8.out))) (below_size (zb2 HB.out GE380.out GE381.out))); replace HO_8 := am (Kd.R_elder' (rx HO_8.out) (Kd.R_base ho36) hb); replace BK380 := am (bb hb (kx BK380.out)); replace BK381 := am (bb hb (kx BK381.out)); replace HB := am (below_step (zb2 HB.out GE380.out GE381.out) hb); clear hb ho36; obtain ⟨Ao38, co38, eo38⟩ := Kd.R_slice HO398.out; subst eo38) | ((with_reducible refine gate_builtin (b := .append) (xs := #[.tmp 50, .tmp 54]) rfl ?_); at_builtin; refine Kd.R_append_rows k67 (w0 := w) w.heap.size rfl (.tmp 50) (.tmp 54) 26 67 (.agg #[(.int .i64 0), (.string ⟨#[]⟩), (.string ⟨#[]⟩), (.string ⟨#[]⟩)]) 56 rfl Tryz.underlying26 info67 rfl (by decide) (by omega) u8 x8_3 y396 _ _ _ (fun k_ => some k_ ≠ (.slice Ao38 y396.length co38 : Value).ownBlock) (fun _ => False) rfl rfl ?aO ?aR (fun _ _ h => h) (fun _ h => h.elim) ?aF ?aB ?aS ?aL ?_; (case aR => repeat (first | exact (Kd.R_reads' HO398.out).2.2 | (with_reducible refine Kd.C_alloc ?_ _) | (with_reducible refine Kd.C_drewN ?_ _) | (with_reducible refine Kd.C_drew ?_))); (case aB => exact (zb2 HB.out GE380.out GE381.out)); (case aF => exact (fun k_ hk => Kd.fresh' (Kd.R_lt (rx HO398.out)) k_ hk)); (case aO => exact (rx (Kd.R_mono HO_8.out (fun _ hk => hk.2)))); (case aS => exact (below_size (zb2 HB.out GE380.out GE381.out))); (case aL => have := LMc31.out; omega); intro v400 w37 ho hb hg hat; rw [← Ny399.out] at ho; have HO401 := am (ho); replace BK380 := am (blk_grown (g := gb380) (o := .cells #[.slice A0_0 l0_0.length c0_0] 30 (0, 0)) (kx BK380.out) hg (Kd.R_ne HO_8.out BK380.out (by decide))); replace BK381 := am (blk_grown (g := gb381) (o := .cells #[.int .i64 a1_0, .int .i64 a1_1, .slice A1_2 l1_2.length c1_2, .string a1_3] 52 (0, 0)) (kx BK381.out) hg (Kd.R_ne HO_8.out BK381.out (by decide))); replace HO398 := am (Kd.R_after (ok := (fun _ => True)) (rx HO398.out) hg hat); replace HB := am (hb); clear HO_8; clear ho hb hg hat; obtain ⟨hcz39_0, hfz39_0⟩ := zc1 BK380.out))
          go_loopg [8, 59] k3 (fun kq v8 v59 w' => ∃ (x8_4 : List (S67)) (x59_4 : Int), v59 = .int .i64 x59_4 ∧ Aside0 (impl_SnapActs.l1 kq x8_4 t395 l0_0 (l0_0.length : Int) x59_4 = some (r1, r2)) ∧ Aside0 (kq ≤ k3) ∧ Aside0 (Kd.R k67 67 w' w.heap.size (fun _ => True) v8 x8_4) ∧ Aside0 (w'.heap[gb380]? = some (.cells #[(.slice A0_0 l0_0.length c0_0)] 30 (0, 0))) ∧ Aside0 (w'.heap[gb381]? = some (.cells #[.int .i64 a1_0, .int .i64 a1_1, (.slice A1_2 l1_2.length c1_2), .string a1_3] 52 (0, 0))) ∧ Aside0 (Below w.heap.size w w'))
          case atStart => exact ⟨(y399), (0), (by first | rfl | (simp; done) | (simp [*]; done)), H', ⟨Nat.le_refl _⟩, ⟨rx (Kd.R_mono HO401.out (fun _ hk => trivial))⟩, ⟨kx BK380.out⟩, ⟨kx BK381.out⟩, ⟨zb2 HB.out GE380.out GE381.out⟩⟩
          case round =>
           clear H'
           try clear c1
           try clear c2
           try clear p2
           try clear c3
           try clear c4
           try clear c5
           try clear c6
           try clear c7
           try clear c11
           try clear c12
           try clear c15
           try clear c18
           try clear c23
           try clear c26
           try clear c27
           try clear c29
           try clear c29b0
           try clear c29b1
           try clear c31
           try clear c32
           try clear c33
           try clear hcz13_0
           try clear hcz16_0
           try clear hcz24_0
           try clear hcz33_0
           try clear hcz33_1
           try clear hcz33_2
           try clear hcz33_3
           try clear hcz39_0
           try clear hcz8_0
           try clear hcz8_1
           try clear hcz8_2
           try clear hcz8_3
           try clear hfz13_0
           try clear hfz16_0
           try clear hfz24_0
           try clear hfz33_0
           try clear hfz33_1
           try clear hfz33_2
           try clear hfz33_3
           try clear hfz39_0
           try clear hfz8_0
           try clear hfz8_1
           try clear hfz8_2
           try clear hfz8_3
           try clear p2
           obtain ⟨x8_4, x59_4, rfl, HA, HK4, HO_8, BK380, BK381, HB⟩ := hrel
           cases gk with
           | zero => exact absurd HA.out (by simp [impl_SnapActs.l1])
           | succ k4 =>
            have H := HA.out
            clear HA
            simp only [impl_SnapActs.l1] at H
            by_cases c40 : x59_4 < (l0_0.length : Int)
            ·rw [if_pos c40] at H
             have c40b0 : decide (x59_4 < (l0_0.length : Int)) = true := decide_eq_true c40
             have c40b1 : decide ((l0_0.length : Int) ≤ x59_4) = false := decide_eq_false (by omega)
             clear c40
             by_cases c41 : 0 ≤ x59_4
             ·rw [if_pos c41] at H
              have c41b0 : decide (0 ≤ x59_4) = true := decide_eq_true c41
              clear c41
              by_cases c42 : x59_4 < (l0_0.length : Int)
              ·rw [if_pos c42] at H
               have c42b0 : decide (x59_4 < (l0_0.length : Int)) = true := decide_eq_true c42
               have c42b1 : decide ((l0_0.length : Int) ≤ x59_4) = false := decide_eq_false (by omega)
               clear c42
               replace H := Option.bind_eq_some_iff.mp H
               obtain ⟨t404, A430, H⟩ := H
               try dsimp only at H
               have A43 := Aside0.mk A430
               clear A430
               by_cases c44 : t404 = true
               ·subst c44
                have H1 : (if ((rd_T63 l0_0 x59_4).f0).toList = t395.toList then (impl_SnapActs.l1 k4 x8_4 t395 l0_0 (l0_0.length : Int) (wrap64 (x59_4 + 1))) else (if x8_4.length < 2513169434916 then (impl_SnapActs.l1 k4 (x8_4 ++ [(⟨4, (rd_T63 l0_0 x59_4).f0, (⟨#[]⟩ : ByteArray), (⟨#[]⟩ : ByteArray)⟩ : S67)]) t395 l0_0 (l0_0.length : Int) (wrap64 (x59_4 + 1))) else (none))) = some (r1, r2) := by rw [if_pos rfl] at H; exact H
                clear H
                have H := H1
                clear H1
                by_cases c45 : ((rd_T63 l0_0 x59_4).f0).toList = t395.toList
                ·rw [if_pos c45] at H
                 have c45b0 : (((rd_T63 l0_0 x59_4).f0).toList == t395.toList) = true := beq_iff_eq.mpr c45
                 have c45b1 : (((rd_T63 l0_0 x59_4).f0).toList != t395.toList) = false := bne_eq_false_iff_eq.mpr c45
                 clear c45
                 have H' := Aside0.mk H
                 clear H
                 have p402 : 0 ≤ (x59_4 : Int) := of_decide_eq_true (by first | (with_reducible assumption) | assumption)
                 have q402 : x59_4 < (l0_0.length : Int) := of_decide_eq_true (by first | (with_reducible assumption) | assumption)
                 obtain ⟨ad402, e402, hx402_0, hx402_1, hx402_2⟩ := at_T63 HR0_0.out x59_4 p402 q402
                 cases e402
                 replace hx402_0 := (HB.out.cell (World.block_lt_of_cell? w _ hx402_0)).trans hx402_0
                 replace hx402_1 := (HB.out.cell (World.block_lt_of_cell? w _ hx402_1)).trans hx402_1
                 replace hx402_2 := (HB.out.cell (World.block_lt_of_cell? w _ hx402_2)).trans hx402_2
                 replace p402 := eq_true p402
                 replace q402 := eq_true q402
                 go_wp2_with (first | ((with_reducible refine gate_dst (N := 12) rfl ?_); refine box_event ?hg (N := 12) ?hd (cs := #[.string (⟨#[]⟩ : ByteArray), .string (⟨#[]⟩ : ByteArray), .int .i64 0]) (t := 63) ?hr ?_; (case hd => rfl); (case hg => rfl); (case hr => first | (go_simp; done) | (go_simp; rfl)); intro gb403 hg w46 hbox hb; have BK403 := am (hbox); have GW403 := zge hg (zb2 HB.out GE380.out GE381.out); have GE403 := zge hg (zb2 HB.out GE380.out GE381.out); have NB380_403 := znl hg (kx BK380.out); have NB403_380 := zng hg (kx BK380.out); have NB381_403 := znl hg (kx BK381.out); have NB403_381 := zng hg (kx BK381.out); replace HO_8 := am (Kd.R_below (rx HO_8.out) hb); replace BK380 := am (bb hb (kx BK380.out)); replace BK381 := am (bb hb (kx BK381.out)); replace HB := am (below_step (zb2 HB.out GE380.out GE381.out) hb); clear hb hbox hg; have hnb47 := NB403_380.out; have hnc47 := NB380_403.out; have hnb48 := NB403_381.out; have hnc48 := NB381_403.out; obtain ⟨hcz49_0, hcz49_1, hcz49_2, hfz49_0, hfz49_1, hfz49_2⟩ := zc3 BK403.out) | ((with_reducible refine gate_callee (f := 32) rfl ?_); refine goesL_ (some 64) rfl rfl Tryz.func32 (by kernel_rfl) rfl #[.agg #[.string ((rd_T63 l0_0 x59_4).f0), .string ((rd_T63 l0_0 x59_4).f1), .int .i64 ((rd_T63 l0_0 x59_4).f2)]] rfl zr ?_; (with_reducible refine (impl_isSnap.calls k4 ((rd_T63 l0_0 x59_4).f0) ((rd_T63 l0_0 x59_4).f1) ((rd_T63 l0_0 x59_4).f2) true _ A43.out ?laid).mono ?_); (case laid => exact LaidW.later HLW.out (zb3 HB.out GE380.out GE381.out GE403.out)); rintro e w50 ⟨rfl, hb⟩; refine ⟨_, rfl, ?_⟩; replace HO_8 := am (Kd.R_below (rx ((Kd.R_mono (Kd.R_far (p := ⟨gb403, 2, none⟩) (Kd.R_far (p := ⟨gb403, 1, none⟩) (Kd.R_far (p := ⟨gb403, 0, none⟩) (Kd.R_types HO_8.out BK403.out (by decide)) (fun _ hk => hk.2) (.string ((rd_T63 l0_0 x59_4).f0))) (fun _ hk => hk.2) (.string ((rd_T63 l0_0 x59_4).f1))) (fun _ hk => hk.2) (.int .i64 ((rd_T63 l0_0 x59_4).f2))) (fun _ h_ => h_.1)))) hb); replace BK380 := am (bb hb (zf1 BK380.out NB380_403.out)); replace BK381 := am (bb hb (zf1 BK381.out NB381_403.out)); replace BK403 := am (blk_below (g := gb403) (o := .cells #[.string ((rd_T63 l0_0 x59_4).f0), .string ((rd_T63 l0_0 x59_4).f1), .int .i64 ((rd_T63 l0_0 x59_4).f2)] 63 (0, 0)) (by (with_reducible repeat (first | refine blk_drewN ?_ _ | refine blk_drew ?_ | refine blk_alloc ?_ _)); refine blk_put (cs := #[.string ((rd_T63 l0_0 x59_4).f0), .string ((rd_T63 l0_0 x59_4).f1), .int .i64 0]) ?_ 2 _ rfl; (with_reducible repeat (first | refine blk_drewN ?_ _ | refine blk_drew ?_ | refine blk_alloc ?_ _)); refine blk_put (cs := #[.string ((rd_T63 l0_0 x59_4).f0), .string (⟨#[]⟩ : ByteArray), .int .i64 0]) ?_ 1 _ rfl; (with_reducible repeat (first | refine blk_drewN ?_ _ | refine blk_drew ?_ | refine blk_alloc ?_ _)); refine blk_put (cs := #[.string (⟨#[]⟩ : ByteArray), .string (⟨#[]⟩ : ByteArray), .int .i64 0]) ?_ 0 _ rfl; (with_reducible repeat (first | refine blk_drewN ?_ _ | refine blk_drew ?_ | refine blk_alloc ?_ _)); exact BK403.out) hb); replace HB := am (below_step (zb3 HB.out GE380.out GE381.out GE403.out) hb); (try clear hb); (try clear hb2); (try clear hk); (try clear hi); obtain ⟨hcz51_0, hcz51_1, hcz51_2, hfz51_0, hfz51_1, hfz51_2⟩ := zc3 BK403.out))
                 go_roundg k4
                 case measure => have := HJ3.out; have := HJ19.out; have := HK3.out; have := HK4.out; omega
                 case rel => exact ⟨(x8_4), (wrap64 (x59_4 + 1)), (by first | rfl | (simp; done) | (simp [*]; done)), H', ⟨by have := HJ3.out; have := HJ19.out; have := HK3.out; have := HK4.out; omega⟩, ⟨rx HO_8.out⟩, ⟨kx BK380.out⟩, ⟨kx BK381.out⟩, ⟨zb3 HB.out GE380.out GE381.out GE403.out⟩⟩
                ·rw [if_neg c45] at H
                 have c45b0 : (((rd_T63 l0_0 x59_4).f0).toList == t395.toList) = false := beq_eq_false_iff_ne.mpr c45
                 have c45b1 : (((rd_T63 l0_0 x59_4).f0).toList != t395.toList) = true := bne_iff_ne.mpr c45
                 by_cases c52 : x8_4.length < 2513169434916
                 ·rw [if_pos c52] at H
                  have LMc52 := Aside0.mk c52
                  clear c52
                  obtain ⟨y405, hy405⟩ : ∃ y_ : List (S67), y_ = (x8_4 ++ [(⟨4, (rd_T63 l0_0 x59_4).f0, (⟨#[]⟩ : ByteArray), (⟨#[]⟩ : ByteArray)⟩ : S67)]) := ⟨_, rfl⟩
                  replace H : (impl_SnapActs.l1 k4 y405 t395 l0_0 (l0_0.length : Int) (wrap64 (x59_4 + 1))) = some (r1, r2) := by first | (rw [hy405]; with_reducible exact H) | (have H2_ := (Option.bind_some _ _).symm.trans H; rw [hy405]; with_reducible exact H2_) | (have H2_ := (Option.bind_some _ _).symm.trans H; with_reducible exact H2_) | with_reducible exact H | (rw [hy405]; exact H) | exact H
                  have Ny405 := Aside0.mk hy405
                  clear hy405
                  have H' := Aside0.mk H
                  clear H
                  have p402 : 0 ≤ (x59_4 : Int) := of_decide_eq_true (by first | (with_reducible assumption) | assumption)
                  have q402 : x59_4 < (l0_0.length : Int) := of_decide_eq_true (by first | (with_reducible assumption) | assumption)
                  obtain ⟨ad402, e402, hx402_0, hx402_1, hx402_2⟩ := at_T63 HR0_0.out x59_4 p402 q402
                  cases e402
                  replace hx402_0 := (HB.out.cell (World.block_lt_of_cell? w _ hx402_0)).trans hx402_0
                  replace hx402_1 := (HB.out.cell (World.block_lt_of_cell? w _ hx402_1)).trans hx402_1
                  replace hx402_2 := (HB.out.cell (World.block_lt_of_cell? w _ hx402_2)).trans hx402_2
                  replace p402 := eq_true p402
                  replace q402 := eq_true q402
                  go_wp2_with (first | ((with_reducible refine gate_dst (N := 12) rfl ?_); refine box_event ?hg (N := 12) ?hd (cs := #[.string (⟨#[]⟩ : ByteArray), .string (⟨#[]⟩ : ByteArray), .int .i64 0]) (t := 63) ?hr ?_; (case hd => rfl); (case hg => rfl); (case hr => first | (go_simp; done) | (go_simp; rfl)); intro gb403 hg w53 hbox hb; have BK403 := am (hbox); have GW403 := zge hg (zb2 HB.out GE380.out GE381.out); have GE403 := zge hg (zb2 HB.out GE380.out GE381.out); have NB380_403 := znl hg (kx BK380.out); have NB403_380 := zng hg (kx BK380.out); have NB381_403 := znl hg (kx BK381.out); have NB403_381 := zng hg (kx BK381.out); replace HO_8 := am (Kd.R_below (rx HO_8.out) hb); replace BK380 := am (bb hb (kx BK380.out)); replace BK381 := am (bb hb (kx BK381.out)); replace HB := am (below_step (zb2 HB.out GE380.out GE381.out) hb); clear hb hbox hg; have hnb54 := NB403_380.out; have hnc54 := NB380_403.out; have hnb55 := NB403_381.out; have hnc55 := NB381_403.out; obtain ⟨hcz56_0, hcz56_1, hcz56_2, hfz56_0, hfz56_1, hfz56_2⟩ := zc3 BK403.out) | ((with_reducible refine gate_callee (f := 32) rfl ?_); refine goesL_ (some 64) rfl rfl Tryz.func32 (by kernel_rfl) rfl #[.agg #[.string ((rd_T63 l0_0 x59_4).f0), .string ((rd_T63 l0_0 x59_4).f1), .int .i64 ((rd_T63 l0_0 x59_4).f2)]] rfl zr ?_; (with_reducible refine (impl_isSnap.calls k4 ((rd_T63 l0_0 x59_4).f0) ((rd_T63 l0_0 x59_4).f1) ((rd_T63 l0_0 x59_4).f2) true _ A43.out ?laid).mono ?_); (case laid => exact LaidW.later HLW.out (zb3 HB.out GE380.out GE381.out GE403.out)); rintro e w57 ⟨rfl, hb⟩; refine ⟨_, rfl, ?_⟩; replace HO_8 := am (Kd.R_below (rx ((Kd.R_mono (Kd.R_far (p := ⟨gb403, 2, none⟩) (Kd.R_far (p := ⟨gb403, 1, none⟩) (Kd.R_far (p := ⟨gb403, 0, none⟩) (Kd.R_types HO_8.out BK403.out (by decide)) (fun _ hk => hk.2) (.string ((rd_T63 l0_0 x59_4).f0))) (fun _ hk => hk.2) (.string ((rd_T63 l0_0 x59_4).f1))) (fun _ hk => hk.2) (.int .i64 ((rd_T63 l0_0 x59_4).f2))) (fun _ h_ => h_.1)))) hb); replace BK380 := am (bb hb (zf1 BK380.out NB380_403.out)); replace BK381 := am (bb hb (zf1 BK381.out NB381_403.out)); replace BK403 := am (blk_below (g := gb403) (o := .cells #[.string ((rd_T63 l0_0 x59_4).f0), .string ((rd_T63 l0_0 x59_4).f1), .int .i64 ((rd_T63 l0_0 x59_4).f2)] 63 (0, 0)) (by (with_reducible repeat (first | refine blk_drewN ?_ _ | refine blk_drew ?_ | refine blk_alloc ?_ _)); refine blk_put (cs := #[.string ((rd_T63 l0_0 x59_4).f0), .string ((rd_T63 l0_0 x59_4).f1), .int .i64 0]) ?_ 2 _ rfl; (with_reducible repeat (first | refine blk_drewN ?_ _ | refine blk_drew ?_ | refine blk_alloc ?_ _)); refine blk_put (cs := #[.string ((rd_T63 l0_0 x59_4).f0), .string (⟨#[]⟩ : ByteArray), .int .i64 0]) ?_ 1 _ rfl; (with_reducible repeat (first | refine blk_drewN ?_ _ | refine blk_drew ?_ | refine blk_alloc ?_ _)); refine blk_put (cs := #[.string (⟨#[]⟩ : ByteArray), .string (⟨#[]⟩ : ByteArray), .int .i64 0]) ?_ 0 _ rfl; (with_reducible repeat (first | refine blk_drewN ?_ _ | refine blk_drew ?_ | refine blk_alloc ?_ _)); exact BK403.out) hb); replace HB := am (below_step (zb3 HB.out GE380.out GE381.out GE403.out) hb); (try clear hb); (try clear hb2); (try clear hk); (try clear hi); obtain ⟨hcz58_0, hcz58_1, hcz58_2, hfz58_0, hfz58_1, hfz58_2⟩ := zc3 BK403.out) | ((with_reducible refine gate_builtin (b := .append) (xs := #[.tmp 71, .tmp 75]) rfl ?_); at_builtin; refine Kd.R_append k67 (w0 := w) w.heap.size rfl (.tmp 71) (.tmp 75) 26 67 (.agg #[(.int .i64 0), (.string ⟨#[]⟩), (.string ⟨#[]⟩), (.string ⟨#[]⟩)]) 56 rfl Tryz.underlying26 info67 rfl (by decide) (by omega) u8 x8_4 (⟨4, (rd_T63 l0_0 x59_4).f0, (⟨#[]⟩ : ByteArray), (⟨#[]⟩ : ByteArray)⟩ : S67) [.int .i64 4, .string ((rd_T63 l0_0 x59_4).f0), .string (⟨#[]⟩ : ByteArray), .string (⟨#[]⟩ : ByteArray)] (fun _ => True) (fun _ => False) rfl rfl ?aP (fun _ hk => hk.elim) ?aF ?aO ?aB ?aS ?aL ?_; (case aP => exact k67_mkM _ _ _ (⟨4, (rd_T63 l0_0 x59_4).f0, (⟨#[]⟩ : ByteArray), (⟨#[]⟩ : ByteArray)⟩ : S67)); (case aB => exact (zb3 HB.out GE380.out GE381.out GE403.out)); (case aF => exact (fun _ _ => trivial)); (case aO => exact (rx HO_8.out)); (case aS => exact (below_size (zb3 HB.out GE380.out GE381.out GE403.out))); (case aL => have := LMc52.out; omega); intro v406 w59 ho hb hg hat; rw [← Ny405.out] at ho; have HO407 := am (ho); replace BK380 := am (blk_grown (g := gb380) (o := .cells #[.slice (some ad402) l0_0.length c0_0] 30 (0, 0)) (kx BK380.out) hg (Kd.R_ne HO_8.out BK380.out (by decide))); replace BK381 := am (blk_grown (g := gb381) (o := .cells #[.int .i64 a1_0, .int .i64 a1_1, .slice A1_2 l1_2.length c1_2, .string a1_3] 52 (0, 0)) (kx BK381.out) hg (Kd.R_ne HO_8.out BK381.out (by decide))); replace BK403 := am (blk_grown (g := gb403) (o := .cells #[.string ((rd_T63 l0_0 x59_4).f0), .string ((rd_T63 l0_0 x59_4).f1), .int .i64 ((rd_T63 l0_0 x59_4).f2)] 63 (0, 0)) (kx BK403.out) hg (Kd.R_ne HO_8.out BK403.out (by decide))); replace HB := am (hb); clear HO_8; clear ho hb hg hat))
                  go_roundg k4
                  case measure => have := HJ3.out; have := HJ19.out; have := HK3.out; have := HK4.out; omega
                  case rel => exact ⟨(y405), (wrap64 (x59_4 + 1)), (by first | rfl | (simp; done) | (simp [*]; done)), H', ⟨by have := HJ3.out; have := HJ19.out; have := HK3.out; have := HK4.out; omega⟩, ⟨rx HO407.out⟩, ⟨kx BK380.out⟩, ⟨kx BK381.out⟩, ⟨zb3 HB.out GE380.out GE381.out GE403.out⟩⟩
                 ·rw [if_neg c52] at H
                  exact absurd H (by simp)
               ·replace c44 := Bool.eq_false_iff.mpr c44
                subst c44
                have H1 : (impl_SnapActs.l1 k4 x8_4 t395 l0_0 (l0_0.length : Int) (wrap64 (x59_4 + 1))) = some (r1, r2) := by rw [if_neg (show ¬ (false = true) by decide)] at H; exact H
                clear H
                have H := H1
                clear H1
                have H' := Aside0.mk H
                clear H
                have p402 : 0 ≤ (x59_4 : Int) := of_decide_eq_true (by first | (with_reducible assumption) | assumption)
                have q402 : x59_4 < (l0_0.length : Int) := of_decide_eq_true (by first | (with_reducible assumption) | assumption)
                obtain ⟨ad402, e402, hx402_0, hx402_1, hx402_2⟩ := at_T63 HR0_0.out x59_4 p402 q402
                cases e402
                replace hx402_0 := (HB.out.cell (World.block_lt_of_cell? w _ hx402_0)).trans hx402_0
                replace hx402_1 := (HB.out.cell (World.block_lt_of_cell? w _ hx402_1)).trans hx402_1
                replace hx402_2 := (HB.out.cell (World.block_lt_of_cell? w _ hx402_2)).trans hx402_2
                replace p402 := eq_true p402
                replace q402 := eq_true q402
                go_wp2_with (first | ((with_reducible refine gate_dst (N := 12) rfl ?_); refine box_event ?hg (N := 12) ?hd (cs := #[.string (⟨#[]⟩ : ByteArray), .string (⟨#[]⟩ : ByteArray), .int .i64 0]) (t := 63) ?hr ?_; (case hd => rfl); (case hg => rfl); (case hr => first | (go_simp; done) | (go_simp; rfl)); intro gb403 hg w60 hbox hb; have BK403 := am (hbox); have GW403 := zge hg (zb2 HB.out GE380.out GE381.out); have GE403 := zge hg (zb2 HB.out GE380.out GE381.out); have NB380_403 := znl hg (kx BK380.out); have NB403_380 := zng hg (kx BK380.out); have NB381_403 := znl hg (kx BK381.out); have NB403_381 := zng hg (kx BK381.out); replace HO_8 := am (Kd.R_below (rx HO_8.out) hb); replace BK380 := am (bb hb (kx BK380.out)); replace BK381 := am (bb hb (kx BK381.out)); replace HB := am (below_step (zb2 HB.out GE380.out GE381.out) hb); clear hb hbox hg; have hnb61 := NB403_380.out; have hnc61 := NB380_403.out; have hnb62 := NB403_381.out; have hnc62 := NB381_403.out; obtain ⟨hcz63_0, hcz63_1, hcz63_2, hfz63_0, hfz63_1, hfz63_2⟩ := zc3 BK403.out) | ((with_reducible refine gate_callee (f := 32) rfl ?_); refine goesL_ (some 64) rfl rfl Tryz.func32 (by kernel_rfl) rfl #[.agg #[.string ((rd_T63 l0_0 x59_4).f0), .string ((rd_T63 l0_0 x59_4).f1), .int .i64 ((rd_T63 l0_0 x59_4).f2)]] rfl zr ?_; (with_reducible refine (impl_isSnap.calls k4 ((rd_T63 l0_0 x59_4).f0) ((rd_T63 l0_0 x59_4).f1) ((rd_T63 l0_0 x59_4).f2) false _ A43.out ?laid).mono ?_); (case laid => exact LaidW.later HLW.out (zb3 HB.out GE380.out GE381.out GE403.out)); rintro e w64 ⟨rfl, hb⟩; refine ⟨_, rfl, ?_⟩; replace HO_8 := am (Kd.R_below (rx ((Kd.R_mono (Kd.R_far (p := ⟨gb403, 2, none⟩) (Kd.R_far (p := ⟨gb403, 1, none⟩) (Kd.R_far (p := ⟨gb403, 0, none⟩) (Kd.R_types HO_8.out BK403.out (by decide)) (fun _ hk => hk.2) (.string ((rd_T63 l0_0 x59_4).f0))) (fun _ hk => hk.2) (.string ((rd_T63 l0_0 x59_4).f1))) (fun _ hk => hk.2) (.int .i64 ((rd_T63 l0_0 x59_4).f2))) (fun _ h_ => h_.1)))) hb); replace BK380 := am (bb hb (zf1 BK380.out NB380_403.out)); replace BK381 := am (bb hb (zf1 BK381.out NB381_403.out)); replace BK403 := am (blk_below (g := gb403) (o := .cells #[.string ((rd_T63 l0_0 x59_4).f0), .string ((rd_T63 l0_0 x59_4).f1), .int .i64 ((rd_T63 l0_0 x59_4).f2)] 63 (0, 0)) (by (with_reducible repeat (first | refine blk_drewN ?_ _ | refine blk_drew ?_ | refine blk_alloc ?_ _)); refine blk_put (cs := #[.string ((rd_T63 l0_0 x59_4).f0), .string ((rd_T63 l0_0 x59_4).f1), .int .i64 0]) ?_ 2 _ rfl; (with_reducible repeat (first | refine blk_drewN ?_ _ | refine blk_drew ?_ | refine blk_alloc ?_ _)); refine blk_put (cs := #[.string ((rd_T63 l0_0 x59_4).f0), .string (⟨#[]⟩ : ByteArray), .int .i64 0]) ?_ 1 _ rfl; (with_reducible repeat (first | refine blk_drewN ?_ _ | refine blk_drew ?_ | refine blk_alloc ?_ _)); refine blk_put (cs := #[.string (⟨#[]⟩ : ByteArray), .string (⟨#[]⟩ : ByteArray), .int .i64 0]) ?_ 0 _ rfl; (with_reducible repeat (first | refine blk_drewN ?_ _ | refine blk_drew ?_ | refine blk_alloc ?_ _)); exact BK403.out) hb); replace HB := am (below_step (zb3 HB.out GE380.out GE381.out GE403.out) hb); (try clear hb); (try clear hb2); (try clear hk); (try clear hi)))
                go_roundg k4
                case measure => have := HJ3.out; have := HJ19.out; have := HK3.out; have := HK4.out; omega
                case rel => exact ⟨(x8_4), (wrap64 (x59_4 + 1)), (by first | rfl | (simp; done) | (simp [*]; done)), H', ⟨by have := HJ3.out; have := HJ19.out; have := HK3.out; have := HK4.out; omega⟩, ⟨rx HO_8.out⟩, ⟨kx BK380.out⟩, ⟨kx BK381.out⟩, ⟨zb3 HB.out GE380.out GE381.out GE403.out⟩⟩
              ·rw [if_neg c42] at H
               exact absurd H (by simp)
             ·rw [if_neg c41] at H
              exact absurd H (by simp)
            ·rw [if_neg c40] at H
             have c40b0 : decide (x59_4 < (l0_0.length : Int)) = false := decide_eq_false c40
             have c40b1 : decide ((l0_0.length : Int) ≤ x59_4) = true := decide_eq_true (by omega)
             clear c40
             simp only [Option.some.injEq, Prod.mk.injEq] at H
             obtain ⟨rfl, rfl⟩ := H
             go_wp2
             go_ret2
             exact ⟨_, by first | rfl | (simp [errW_none, errW_some] <;> rfl) | (simp [*, errW_none, errW_some] <;> rfl), rx HO_8.out, zb2 HB.out GE380.out GE381.out⟩
         ·rw [if_neg c31] at H
          exact absurd H (by simp)
        ·rw [if_neg c29] at H
         have c29b0 : (x6_3.toList == ([] : List UInt8)) = false := beq_eq_false_iff_ne.mpr c29
         have c29b1 : (x6_3.toList != ([] : List UInt8)) = true := bne_iff_ne.mpr c29
         obtain ⟨ji65, hji65⟩ : ∃ j_ : Int, (mn 60 (x6_3.size : Int)) = j_ := ⟨_, rfl⟩
         replace H : (if 0 ≤ (ji65) then (if (ji65) ≤ (x6_3.size : Int) then (if x8_3.length < 2513169434916 then (impl_SnapActs.l0 k3 (x6_3.extract ((ji65) : Int).toNat x6_3.size) (x8_3 ++ [(⟨1, (⟨#[115, 43]⟩ : ByteArray), x6_3.extract 0 ((ji65) : Int).toNat, (⟨#[]⟩ : ByteArray)⟩ : S67)]) l0_0 a1_0 a1_1 l1_2 a1_3) else (none)) else (none)) else (none)) = some (r1, r2) := by first | (rw [hji65] at H; exact H) | (simp only [hji65] at H ⊢; exact H)
         have hji65_ : (if (x6_3.size : Int) < 60 then (x6_3.size : Int) else 60) = ji65 := hji65
         by_cases c66 : 0 ≤ (ji65)
         ·rw [if_pos c66] at H
          have c66b0 := eq_true c66
          have c66b1 : decide (0 ≤ (ji65)) = true := decide_eq_true c66
          clear c66
          by_cases c67 : (ji65) ≤ (x6_3.size : Int)
          ·rw [if_pos c67] at H
           have c67b0 := eq_true c67
           have c67b1 : decide ((ji65) ≤ (x6_3.size : Int)) = true := decide_eq_true c67
           clear c67
           by_cases c68 : x8_3.length < 2513169434916
           ·rw [if_pos c68] at H
            have LMc68 := Aside0.mk c68
            clear c68
            obtain ⟨y392, hy392⟩ : ∃ y_ : List (S67), y_ = (x8_3 ++ [(⟨1, (⟨#[115, 43]⟩ : ByteArray), x6_3.extract 0 ((ji65) : Int).toNat, (⟨#[]⟩ : ByteArray)⟩ : S67)]) := ⟨_, rfl⟩
            replace H : (impl_SnapActs.l0 k3 (x6_3.extract ((ji65) : Int).toNat x6_3.size) y392 l0_0 a1_0 a1_1 l1_2 a1_3) = some (r1, r2) := by first | (rw [hy392]; with_reducible exact H) | (have H2_ := (Option.bind_some _ _).symm.trans H; rw [hy392]; with_reducible exact H2_) | (have H2_ := (Option.bind_some _ _).symm.trans H; with_reducible exact H2_) | with_reducible exact H | (rw [hy392]; exact H) | exact H
            have Ny392 := Aside0.mk hy392
            clear hy392
            have c69b0 := eq_true (of_decide_eq_true (by first | (with_reducible assumption) | assumption) : 0 ≤ (ji65))
            have c70b0 := eq_true (of_decide_eq_true (by first | (with_reducible assumption) | assumption) : (ji65) ≤ (x6_3.size : Int))
            have H' := Aside0.mk H
            clear H
            go_wp2_with (first | ((with_reducible refine gate_builtin (b := .append) (xs := #[.tmp 37, .tmp 42]) rfl ?_); at_builtin; refine Kd.R_append k67 (w0 := w) w.heap.size rfl (.tmp 37) (.tmp 42) 26 67 (.agg #[(.int .i64 0), (.string ⟨#[]⟩), (.string ⟨#[]⟩), (.string ⟨#[]⟩)]) 56 rfl Tryz.underlying26 info67 rfl (by decide) (by omega) u8 x8_3 (⟨1, (⟨#[115, 43]⟩ : ByteArray), x6_3.extract 0 ((ji65) : Int).toNat, (⟨#[]⟩ : ByteArray)⟩ : S67) [.int .i64 1, .string (⟨#[115, 43]⟩ : ByteArray), .string (x6_3.extract 0 ((ji65) : Int).toNat), .string (⟨#[]⟩ : ByteArray)] (fun _ => True) (fun _ => False) rfl rfl ?aP (fun _ hk => hk.elim) ?aF ?aO ?aB ?aS ?aL ?_; (case aP => exact k67_mkM _ _ _ (⟨1, (⟨#[115, 43]⟩ : ByteArray), x6_3.extract 0 ((ji65) : Int).toNat, (⟨#[]⟩ : ByteArray)⟩ : S67)); (case aB => exact (zb2 HB.out GE380.out GE381.out)); (case aF => exact (fun _ _ => trivial)); (case aO => exact (rx HO_8.out)); (case aS => exact (below_size (zb2 HB.out GE380.out GE381.out))); (case aL => have := LMc68.out; omega); intro v393 w71 ho hb hg hat; rw [← Ny392.out] at ho; have HO394 := am (ho); replace BK380 := am (blk_grown (g := gb380) (o := .cells #[.slice A0_0 l0_0.length c0_0] 30 (0, 0)) (kx BK380.out) hg (Kd.R_ne HO_8.out BK380.out (by decide))); replace BK381 := am (blk_grown (g := gb381) (o := .cells #[.int .i64 a1_0, .int .i64 a1_1, .slice A1_2 l1_2.length c1_2, .string a1_3] 52 (0, 0)) (kx BK381.out) hg (Kd.R_ne HO_8.out BK381.out (by decide))); replace HB := am (hb); clear HO_8; clear ho hb hg hat))
            go_roundg k3
            case measure => have := HJ3.out; have := HJ19.out; have := HK3.out; omega
            case rel => exact ⟨(x6_3.extract ((ji65) : Int).toNat x6_3.size), (y392), (by first | rfl | (simp; done) | (simp only [← hji65] <;> (first | rfl | simp)) | (simp [*]; done)), H', ⟨by have := HJ3.out; have := HJ19.out; have := HK3.out; omega⟩, ⟨rx HO394.out⟩, ⟨kx BK380.out⟩, ⟨kx BK381.out⟩, ⟨zb2 HB.out GE380.out GE381.out⟩⟩
           ·rw [if_neg c68] at H
            exact absurd H (by simp)
          ·rw [if_neg c67] at H
           exact absurd H (by simp)
         ·rw [if_neg c66] at H
          exact absurd H (by simp)

/-! ### laws_eqIntS: function 61 -/
def laws_eqIntS.l0 : Nat → List Int → List Int → Int → Option (Bool)
 | 0, _, _, _ => none
 | k + 1, x0, x1, x5 => if x5 < (x0.length : Int) then (if 0 ≤ x5 then (if x5 < (x1.length : Int) then (if (rd x0 x5) = (rd x1 x5) then (laws_eqIntS.l0 k x0 x1 (wrap64 (x5 + 1))) else (some false)) else (none)) else (none)) else (some true)
def laws_eqIntS.f (k : Nat) (l0 : List Int) (l1 : List Int) : Option (Bool) := if (l0.length : Int) = (l1.length : Int) then (laws_eqIntS.l0 k l0 l1 0) else (some false)
theorem laws_eqIntS.mono_l : ∀ k, (∀ y0 y1 y2, LeO (laws_eqIntS.l0 k y0 y1 y2) (laws_eqIntS.l0 (k + 1) y0 y1 y2))
 | 0 => fun _ _ _ r h => by simp [laws_eqIntS.l0] at h
 | k + 1 => by
  have ih0 := laws_eqIntS.mono_l k
  ·intro y0 y1 y2
   unfold laws_eqIntS.l0
   repeat' first
   | (with_reducible exact ih0 _ _ _)
   | (with_reducible exact LeO.refl _)
   | (with_reducible exact LeO.none _)
   | (with_reducible refine LeO.ite ?_ ?_)
   | (with_reducible refine LeO.bind ?_ (fun _ => ?_))
   | exact ih0 _ _ _
   | exact LeO.none _
   | refine LeO.ite ?_ ?_
   | refine LeO.bind ?_ (fun _ => ?_)
theorem laws_eqIntS.mono : ∀ a0 a1 k, LeO (laws_eqIntS.f k a0 a1) (laws_eqIntS.f (k + 1) a0 a1) := by
 intro a0 a1 k
 have ih0 := laws_eqIntS.mono_l k
 unfold laws_eqIntS.f
 repeat' first
   | (with_reducible exact ih0 _ _ _)
   | (with_reducible exact LeO.refl _)
   | (with_reducible exact LeO.none _)
   | (with_reducible refine LeO.ite ?_ ?_)
   | (with_reducible refine LeO.bind ?_ (fun _ => ?_))
   | exact ih0 _ _ _
   | exact LeO.none _
   | refine LeO.ite ?_ ?_
   | refine LeO.bind ?_ (fun _ => ?_)
set_option maxHeartbeats 8000000 in
set_option maxRecDepth 100000 in
theorem laws_eqIntS.calls (k : Nat) (A0 : Option Addr) (c0 : Nat) (l0 : List Int) (A1 : Option Addr) (c1 : Nat) (l1 : List Int) (r : Bool) (w : World) (hr0 : Kd.C (Kd.int .i64) w A0 l0.length l0) (hc0 : l0.length ≤ c0) (hr1 : Kd.C (Kd.int .i64) w A1 l1.length l1) (hc1 : l1.length ≤ c1) (h : laws_eqIntS.f k l0 l1 = some r) :
  Calls Tryz.prog 61 #[.slice A0 l0.length c0, .slice A1 l1.length c1] w fun e w' => e = .returned (.bool r) ∧ Drawn0 w w' := by
 have HR0 := Aside0.mk hr0
 have HC0 := Aside0.mk hc0
 clear hr0 hc0
 have HR1 := Aside0.mk hr1
 have HC1 := Aside0.mk hc1
 clear hr1 hc1
 have H : (if (l0.length : Int) = (l1.length : Int) then (laws_eqIntS.l0 k l0 l1 0) else (some false)) = some r := h
 clear h
 by_cases c3 : (l0.length : Int) = (l1.length : Int)
 ·rw [if_pos c3] at H
  have c3b0 : ((l0.length : Int) == (l1.length : Int)) = true := beq_iff_eq.mpr c3
  have c3b1 : ((l0.length : Int) != (l1.length : Int)) = false := bne_eq_false_iff_eq.mpr c3
  have c3b2 : (l0.length == l1.length) = true := by first | simpa using c3 | (simp at c3 ⊢; omega)
  clear c3
  have H' := Aside0.mk H
  clear H
  go_enter Tryz.func61, Tryz.ntmps61
  go_wp2
  repeat (go_quiet (fail); try go_wp2)
  go_loopg [5] k (fun kq v5 w' => ∃ (x5_1 : Int), v5 = .int .i64 x5_1 ∧ Aside0 (laws_eqIntS.l0 kq l0 l1 x5_1 = some r) ∧ Aside0 (kq ≤ k) ∧ Drawn0 w w')
  case atStart => exact ⟨(0), (by first | rfl | (simp; done) | (simp [*]; done)), H', ⟨Nat.le_refl _⟩, by repeat (first | exact Drawn0.refl _ | apply Drawn0.step)⟩
  case round =>
   clear H'
   try clear c1
   try clear p2
   try clear c3
   try clear c3b0
   try clear c3b1
   try clear c3b2
   obtain ⟨x5_1, rfl, HA, HK1, ⟨m1, rfl⟩⟩ := hrel
   cases gk with
   | zero => exact absurd HA.out (by simp [laws_eqIntS.l0])
   | succ k1 =>
    have H := HA.out
    clear HA
    simp only [laws_eqIntS.l0] at H
    by_cases c4 : x5_1 < (l0.length : Int)
    ·rw [if_pos c4] at H
     have c4b0 : decide (x5_1 < (l0.length : Int)) = true := decide_eq_true c4
     have c4b1 : decide ((l0.length : Int) ≤ x5_1) = false := decide_eq_false (by omega)
     clear c4
     by_cases c5 : 0 ≤ x5_1
     ·rw [if_pos c5] at H
      have c5b0 : decide (0 ≤ x5_1) = true := decide_eq_true c5
      clear c5
      by_cases c6 : x5_1 < (l1.length : Int)
      ·rw [if_pos c6] at H
       have c6b0 : decide (x5_1 < (l1.length : Int)) = true := decide_eq_true c6
       have c6b1 : decide ((l1.length : Int) ≤ x5_1) = false := decide_eq_false (by omega)
       clear c6
       by_cases c7 : (rd l0 x5_1) = (rd l1 x5_1)
       ·rw [if_pos c7] at H
        have c7b0 : ((rd l0 x5_1) == (rd l1 x5_1)) = true := beq_iff_eq.mpr c7
        have c7b1 : ((rd l0 x5_1) != (rd l1 x5_1)) = false := bne_eq_false_iff_eq.mpr c7
        clear c7
        have H' := Aside0.mk H
        clear H
        have p408 : 0 ≤ (x5_1 : Int) := of_decide_eq_true (by first | (with_reducible assumption) | assumption)
        have q408 : x5_1 < (l0.length : Int) := of_decide_eq_true (by first | (with_reducible assumption) | assumption)
        obtain ⟨ad408, e408, hx408_0⟩ := Kd.at_int HR0.out x5_1 p408 q408
        cases e408
        replace p408 := eq_true p408
        replace q408 := eq_true q408
        have p409 : 0 ≤ (x5_1 : Int) := of_decide_eq_true (by first | (with_reducible assumption) | assumption)
        have q409 : x5_1 < (l1.length : Int) := of_decide_eq_true (by first | (with_reducible assumption) | assumption)
        obtain ⟨ad409, e409, hx409_0⟩ := Kd.at_int HR1.out x5_1 p409 q409
        cases e409
        replace p409 := eq_true p409
        replace q409 := eq_true q409
        go_wp2
        repeat (go_quiet (fail); try go_wp2)
        go_roundg k1
        case measure => have := HK1.out; omega
        case rel => exact ⟨(wrap64 (x5_1 + 1)), (by first | rfl | (simp; done) | (simp [*]; done)), H', ⟨by have := HK1.out; omega⟩, by repeat (first | exact Drawn0.refl _ | apply Drawn0.step)⟩
       ·rw [if_neg c7] at H
        have c7b0 : ((rd l0 x5_1) == (rd l1 x5_1)) = false := beq_eq_false_iff_ne.mpr c7
        have c7b1 : ((rd l0 x5_1) != (rd l1 x5_1)) = true := bne_iff_ne.mpr c7
        obtain rfl := Option.some.inj H
        have p408 : 0 ≤ (x5_1 : Int) := of_decide_eq_true (by first | (with_reducible assumption) | assumption)
        have q408 : x5_1 < (l0.length : Int) := of_decide_eq_true (by first | (with_reducible assumption) | assumption)
        obtain ⟨ad408, e408, hx408_0⟩ := Kd.at_int HR0.out x5_1 p408 q408
        cases e408
        replace p408 := eq_true p408
        replace q408 := eq_true q408
        have p409 : 0 ≤ (x5_1 : Int) := of_decide_eq_true (by first | (with_reducible assumption) | assumption)
        have q409 : x5_1 < (l1.length : Int) := of_decide_eq_true (by first | (with_reducible assumption) | assumption)
        obtain ⟨ad409, e409, hx409_0⟩ := Kd.at_int HR1.out x5_1 p409 q409
        cases e409
        replace p409 := eq_true p409
        replace q409 := eq_true q409
        go_wp2
        repeat (go_quiet (fail); try go_wp2)
        go_ret
        exact ⟨by first | rfl | (simp; done) | (simp [*]; done), by repeat (first | exact Drawn0.refl _ | apply Drawn0.step)⟩
      ·rw [if_neg c6] at H
       exact absurd H (by simp)
     ·rw [if_neg c5] at H
      exact absurd H (by simp)
    ·rw [if_neg c4] at H
     have c4b0 : decide (x5_1 < (l0.length : Int)) = false := decide_eq_false c4
     have c4b1 : decide ((l0.length : Int) ≤ x5_1) = true := decide_eq_true (by omega)
     clear c4
     obtain rfl := Option.some.inj H
     go_wp2
     repeat (go_quiet (fail); try go_wp2)
     go_ret
     exact ⟨by first | rfl | (simp; done) | (simp [*]; done), by repeat (first | exact Drawn0.refl _ | apply Drawn0.step)⟩
 ·rw [if_neg c3] at H
  have c3b0 : ((l0.length : Int) == (l1.length : Int)) = false := beq_eq_false_iff_ne.mpr c3
  have c3b1 : ((l0.length : Int) != (l1.length : Int)) = true := bne_iff_ne.mpr c3
  have c3b2 : (l0.length == l1.length) = false := by first | simpa using c3 | (simp at c3 ⊢; omega)
  obtain rfl := Option.some.inj H
  go_enter Tryz.func61, Tryz.ntmps61
  go_wp2
  repeat (go_quiet (fail); try go_wp2)
  go_ret
  exact ⟨by first | rfl | (simp; done) | (simp [*]; done), by repeat (first | exact Drawn0.refl _ | apply Drawn0.step)⟩

/-! ### laws_eqSnap: function 24 -/
def laws_eqSnap.f (k : Nat) (a0_0 : Int) (a0_1 : Int) (l0_2 : List Int) (a0_3 : ByteArray) (a1_0 : Int) (a1_1 : Int) (l1_2 : List Int) (a1_3 : ByteArray) : Option (Bool) := if a0_0 = a1_0 then (if a0_1 = a1_1 then ((laws_eqIntS.f k l0_2 l1_2).bind fun t412 => (if t412 = true then (if a0_3.toList = a1_3.toList then (some true) else (some false)) else (some false))) else (some false)) else (some false)
theorem laws_eqSnap.mono : ∀ a0 a1 a2 a3 a4 a5 a6 a7 k, LeO (laws_eqSnap.f k a0 a1 a2 a3 a4 a5 a6 a7) (laws_eqSnap.f (k + 1) a0 a1 a2 a3 a4 a5 a6 a7) := by
 intro a0 a1 a2 a3 a4 a5 a6 a7 k
 unfold laws_eqSnap.f
 repeat' first
   | (with_reducible exact laws_eqIntS.mono _ _ _)
   | (with_reducible exact LeO.refl _)
   | (with_reducible exact LeO.none _)
   | (with_reducible refine LeO.ite ?_ ?_)
   | (with_reducible refine LeO.bind ?_ (fun _ => ?_))
   | exact laws_eqIntS.mono _ _ _
   | exact LeO.none _
   | refine LeO.ite ?_ ?_
   | refine LeO.bind ?_ (fun _ => ?_)
set_option maxHeartbeats 8000000 in
set_option maxRecDepth 100000 in
theorem laws_eqSnap.calls (k : Nat) (a0_0 : Int) (a0_1 : Int) (A0_2 : Option Addr) (c0_2 : Nat) (l0_2 : List Int) (a0_3 : ByteArray) (a1_0 : Int) (a1_1 : Int) (A1_2 : Option Addr) (c1_2 : Nat) (l1_2 : List Int) (a1_3 : ByteArray) (r : Bool) (w : World) (hr0_2 : Kd.C (Kd.int .i64) w A0_2 l0_2.length l0_2) (hc0_2 : l0_2.length ≤ c0_2) (hr1_2 : Kd.C (Kd.int .i64) w A1_2 l1_2.length l1_2) (hc1_2 : l1_2.length ≤ c1_2) (h : laws_eqSnap.f k a0_0 a0_1 l0_2 a0_3 a1_0 a1_1 l1_2 a1_3 = some r) :
  Calls Tryz.prog 24 #[.agg #[.int .i64 a0_0, .int .i64 a0_1, .slice A0_2 l0_2.length c0_2, .string a0_3], .agg #[.int .i64 a1_0, .int .i64 a1_1, .slice A1_2 l1_2.length c1_2, .string a1_3]] w fun e w' => e = .returned (.bool r) ∧ Below w.heap.size w w' := by
 have hu52 := Tryz.underlying52
 have HR0_2 := Aside0.mk hr0_2
 have HC0_2 := Aside0.mk hc0_2
 clear hr0_2 hc0_2
 have HR1_2 := Aside0.mk hr1_2
 have HC1_2 := Aside0.mk hc1_2
 clear hr1_2 hc1_2
 have HB := Aside0.mk (Below.refl w.heap.size w)
 have H : (if a0_0 = a1_0 then (if a0_1 = a1_1 then ((laws_eqIntS.f k l0_2 l1_2).bind fun t412 => (if t412 = true then (if a0_3.toList = a1_3.toList then (some true) else (some false)) else (some false))) else (some false)) else (some false)) = some r := h
 clear h
 by_cases c3 : a0_0 = a1_0
 ·rw [if_pos c3] at H
  have c3b0 : (a0_0 == a1_0) = true := beq_iff_eq.mpr c3
  have c3b1 : (a0_0 != a1_0) = false := bne_eq_false_iff_eq.mpr c3
  clear c3
  by_cases c4 : a0_1 = a1_1
  ·rw [if_pos c4] at H
   have c4b0 : (a0_1 == a1_1) = true := beq_iff_eq.mpr c4
   have c4b1 : (a0_1 != a1_1) = false := bne_eq_false_iff_eq.mpr c4
   clear c4
   replace H := Option.bind_eq_some_iff.mp H
   obtain ⟨t412, A50, H⟩ := H
   try dsimp only at H
   have A5 := Aside0.mk A50
   clear A50
   by_cases c6 : t412 = true
   ·subst c6
    have H1 : (if a0_3.toList = a1_3.toList then (some true) else (some false)) = some r := by rw [if_pos rfl] at H; exact H
    clear H
    have H := H1
    clear H1
    by_cases c7 : a0_3.toList = a1_3.toList
    ·rw [if_pos c7] at H
     have c7b0 : (a0_3.toList == a1_3.toList) = true := beq_iff_eq.mpr c7
     have c7b1 : (a0_3.toList != a1_3.toList) = false := bne_eq_false_iff_eq.mpr c7
     clear c7
     obtain rfl := Option.some.inj H
     go_enter Tryz.func24, Tryz.ntmps24
     go_wp2_with (first | ((with_reducible refine gate_dst (N := 2) rfl ?_); refine box_event ?hg (N := 2) ?hd (cs := #[.int .i64 a0_0, .int .i64 a0_1, .slice A0_2 l0_2.length c0_2, .string a0_3]) (t := 52) ?hr ?_; (case hd => rfl); (case hg => rfl); (case hr => first | (go_simp; done) | (go_simp; rfl)); intro gb410 hg w8 hbox hb; have BK410 := am (hbox); have GW410 := zge hg (zb0 HB.out); have GE410 := zge hg (zb0 HB.out); replace HB := am (below_step (zb0 HB.out) hb); clear hb hbox hg) | ((with_reducible refine gate_dst (N := 3) rfl ?_); refine box_event ?hg (N := 3) ?hd (cs := #[.int .i64 a1_0, .int .i64 a1_1, .slice A1_2 l1_2.length c1_2, .string a1_3]) (t := 52) ?hr ?_; (case hd => rfl); (case hg => rfl); (case hr => first | (go_simp; done) | (go_simp; rfl)); intro gb411 hg w9 hbox hb; have BK411 := am (hbox); have GW411 := zge hg (zb1 HB.out GE410.out); have GE411 := zge hg (zb1 HB.out GE410.out); have NB410_411 := znl hg (kx BK410.out); have NB411_410 := zng hg (kx BK410.out); replace BK410 := am (bb hb (kx BK410.out)); replace HB := am (below_step (zb1 HB.out GE410.out) hb); clear hb hbox hg; have hnb10 := NB410_411.out; have hnc10 := NB411_410.out; obtain ⟨hcz11_0, hcz11_1, hcz11_2, hcz11_3, hfz11_0, hfz11_1, hfz11_2, hfz11_3⟩ := zc4 BK410.out; obtain ⟨hcz12_0, hcz12_1, hcz12_2, hcz12_3, hfz12_0, hfz12_1, hfz12_2, hfz12_3⟩ := zc4 BK411.out) | ((with_reducible refine gate_callee (f := 61) rfl ?_); refine goesL_ (some 19) rfl rfl Tryz.func61 (by kernel_rfl) rfl #[.slice A0_2 l0_2.length c0_2, .slice A1_2 l1_2.length c1_2] rfl zr ?_; (with_reducible refine (laws_eqIntS.calls k _ _ l0_2 _ _ l1_2 true _ ?side1 ?side2 ?side3 ?side4 A5.out).mono ?_); (case side1 => repeat (first | exact (Kd.C_below HR0_2.out HB.out) | (with_reducible refine Kd.C_alloc ?_ _) | (with_reducible refine Kd.C_drewN ?_ _) | (with_reducible refine Kd.C_drew ?_))); (case side2 => exact HC0_2.out); (case side3 => repeat (first | exact (Kd.C_below HR1_2.out HB.out) | (with_reducible refine Kd.C_alloc ?_ _) | (with_reducible refine Kd.C_drewN ?_ _) | (with_reducible refine Kd.C_drew ?_))); (case side4 => exact HC1_2.out); rintro e w' ⟨rfl, ⟨nd, rfl⟩⟩; refine ⟨_, rfl, ?_⟩))
     go_ret
     exact ⟨by first | rfl | (simp [errW_none, errW_some] <;> rfl) | (simp [*, errW_none, errW_some] <;> rfl), zb2 HB.out GE410.out GE411.out⟩
    ·rw [if_neg c7] at H
     have c7b0 : (a0_3.toList == a1_3.toList) = false := beq_eq_false_iff_ne.mpr c7
     have c7b1 : (a0_3.toList != a1_3.toList) = true := bne_iff_ne.mpr c7
     obtain rfl := Option.some.inj H
     go_enter Tryz.func24, Tryz.ntmps24
     go_wp2_with (first | ((with_reducible refine gate_dst (N := 2) rfl ?_); refine box_event ?hg (N := 2) ?hd (cs := #[.int .i64 a0_0, .int .i64 a0_1, .slice A0_2 l0_2.length c0_2, .string a0_3]) (t := 52) ?hr ?_; (case hd => rfl); (case hg => rfl); (case hr => first | (go_simp; done) | (go_simp; rfl)); intro gb410 hg w13 hbox hb; have BK410 := am (hbox); have GW410 := zge hg (zb0 HB.out); have GE410 := zge hg (zb0 HB.out); replace HB := am (below_step (zb0 HB.out) hb); clear hb hbox hg) | ((with_reducible refine gate_dst (N := 3) rfl ?_); refine box_event ?hg (N := 3) ?hd (cs := #[.int .i64 a1_0, .int .i64 a1_1, .slice A1_2 l1_2.length c1_2, .string a1_3]) (t := 52) ?hr ?_; (case hd => rfl); (case hg => rfl); (case hr => first | (go_simp; done) | (go_simp; rfl)); intro gb411 hg w14 hbox hb; have BK411 := am (hbox); have GW411 := zge hg (zb1 HB.out GE410.out); have GE411 := zge hg (zb1 HB.out GE410.out); have NB410_411 := znl hg (kx BK410.out); have NB411_410 := zng hg (kx BK410.out); replace BK410 := am (bb hb (kx BK410.out)); replace HB := am (below_step (zb1 HB.out GE410.out) hb); clear hb hbox hg; have hnb15 := NB410_411.out; have hnc15 := NB411_410.out; obtain ⟨hcz16_0, hcz16_1, hcz16_2, hcz16_3, hfz16_0, hfz16_1, hfz16_2, hfz16_3⟩ := zc4 BK410.out; obtain ⟨hcz17_0, hcz17_1, hcz17_2, hcz17_3, hfz17_0, hfz17_1, hfz17_2, hfz17_3⟩ := zc4 BK411.out) | ((with_reducible refine gate_callee (f := 61) rfl ?_); refine goesL_ (some 19) rfl rfl Tryz.func61 (by kernel_rfl) rfl #[.slice A0_2 l0_2.length c0_2, .slice A1_2 l1_2.length c1_2] rfl zr ?_; (with_reducible refine (laws_eqIntS.calls k _ _ l0_2 _ _ l1_2 true _ ?side1 ?side2 ?side3 ?side4 A5.out).mono ?_); (case side1 => repeat (first | exact (Kd.C_below HR0_2.out HB.out) | (with_reducible refine Kd.C_alloc ?_ _) | (with_reducible refine Kd.C_drewN ?_ _) | (with_reducible refine Kd.C_drew ?_))); (case side2 => exact HC0_2.out); (case side3 => repeat (first | exact (Kd.C_below HR1_2.out HB.out) | (with_reducible refine Kd.C_alloc ?_ _) | (with_reducible refine Kd.C_drewN ?_ _) | (with_reducible refine Kd.C_drew ?_))); (case side4 => exact HC1_2.out); rintro e w' ⟨rfl, ⟨nd, rfl⟩⟩; refine ⟨_, rfl, ?_⟩))
     go_ret
     exact ⟨by first | rfl | (simp [errW_none, errW_some] <;> rfl) | (simp [*, errW_none, errW_some] <;> rfl), zb2 HB.out GE410.out GE411.out⟩
   ·replace c6 := Bool.eq_false_iff.mpr c6
    subst c6
    have H1 : (some false) = some r := by rw [if_neg (show ¬ (false = true) by decide)] at H; exact H
    clear H
    have H := H1
    clear H1
    obtain rfl := Option.some.inj H
    go_enter Tryz.func24, Tryz.ntmps24
    go_wp2_with (first | ((with_reducible refine gate_dst (N := 2) rfl ?_); refine box_event ?hg (N := 2) ?hd (cs := #[.int .i64 a0_0, .int .i64 a0_1, .slice A0_2 l0_2.length c0_2, .string a0_3]) (t := 52) ?hr ?_; (case hd => rfl); (case hg => rfl); (case hr => first | (go_simp; done) | (go_simp; rfl)); intro gb410 hg w18 hbox hb; have BK410 := am (hbox); have GW410 := zge hg (zb0 HB.out); have GE410 := zge hg (zb0 HB.out); replace HB := am (below_step (zb0 HB.out) hb); clear hb hbox hg) | ((with_reducible refine gate_dst (N := 3) rfl ?_); refine box_event ?hg (N := 3) ?hd (cs := #[.int .i64 a1_0, .int .i64 a1_1, .slice A1_2 l1_2.length c1_2, .string a1_3]) (t := 52) ?hr ?_; (case hd => rfl); (case hg => rfl); (case hr => first | (go_simp; done) | (go_simp; rfl)); intro gb411 hg w19 hbox hb; have BK411 := am (hbox); have GW411 := zge hg (zb1 HB.out GE410.out); have GE411 := zge hg (zb1 HB.out GE410.out); have NB410_411 := znl hg (kx BK410.out); have NB411_410 := zng hg (kx BK410.out); replace BK410 := am (bb hb (kx BK410.out)); replace HB := am (below_step (zb1 HB.out GE410.out) hb); clear hb hbox hg; have hnb20 := NB410_411.out; have hnc20 := NB411_410.out; obtain ⟨hcz21_0, hcz21_1, hcz21_2, hcz21_3, hfz21_0, hfz21_1, hfz21_2, hfz21_3⟩ := zc4 BK410.out; obtain ⟨hcz22_0, hcz22_1, hcz22_2, hcz22_3, hfz22_0, hfz22_1, hfz22_2, hfz22_3⟩ := zc4 BK411.out) | ((with_reducible refine gate_callee (f := 61) rfl ?_); refine goesL_ (some 19) rfl rfl Tryz.func61 (by kernel_rfl) rfl #[.slice A0_2 l0_2.length c0_2, .slice A1_2 l1_2.length c1_2] rfl zr ?_; (with_reducible refine (laws_eqIntS.calls k _ _ l0_2 _ _ l1_2 false _ ?side1 ?side2 ?side3 ?side4 A5.out).mono ?_); (case side1 => repeat (first | exact (Kd.C_below HR0_2.out HB.out) | (with_reducible refine Kd.C_alloc ?_ _) | (with_reducible refine Kd.C_drewN ?_ _) | (with_reducible refine Kd.C_drew ?_))); (case side2 => exact HC0_2.out); (case side3 => repeat (first | exact (Kd.C_below HR1_2.out HB.out) | (with_reducible refine Kd.C_alloc ?_ _) | (with_reducible refine Kd.C_drewN ?_ _) | (with_reducible refine Kd.C_drew ?_))); (case side4 => exact HC1_2.out); rintro e w' ⟨rfl, ⟨nd, rfl⟩⟩; refine ⟨_, rfl, ?_⟩))
    go_ret
    exact ⟨by first | rfl | (simp [errW_none, errW_some] <;> rfl) | (simp [*, errW_none, errW_some] <;> rfl), zb2 HB.out GE410.out GE411.out⟩
  ·rw [if_neg c4] at H
   have c4b0 : (a0_1 == a1_1) = false := beq_eq_false_iff_ne.mpr c4
   have c4b1 : (a0_1 != a1_1) = true := bne_iff_ne.mpr c4
   obtain rfl := Option.some.inj H
   go_enter Tryz.func24, Tryz.ntmps24
   go_wp2_with (first | ((with_reducible refine gate_dst (N := 2) rfl ?_); refine box_event ?hg (N := 2) ?hd (cs := #[.int .i64 a0_0, .int .i64 a0_1, .slice A0_2 l0_2.length c0_2, .string a0_3]) (t := 52) ?hr ?_; (case hd => rfl); (case hg => rfl); (case hr => first | (go_simp; done) | (go_simp; rfl)); intro gb410 hg w23 hbox hb; have BK410 := am (hbox); have GW410 := zge hg (zb0 HB.out); have GE410 := zge hg (zb0 HB.out); replace HB := am (below_step (zb0 HB.out) hb); clear hb hbox hg) | ((with_reducible refine gate_dst (N := 3) rfl ?_); refine box_event ?hg (N := 3) ?hd (cs := #[.int .i64 a1_0, .int .i64 a1_1, .slice A1_2 l1_2.length c1_2, .string a1_3]) (t := 52) ?hr ?_; (case hd => rfl); (case hg => rfl); (case hr => first | (go_simp; done) | (go_simp; rfl)); intro gb411 hg w24 hbox hb; have BK411 := am (hbox); have GW411 := zge hg (zb1 HB.out GE410.out); have GE411 := zge hg (zb1 HB.out GE410.out); have NB410_411 := znl hg (kx BK410.out); have NB411_410 := zng hg (kx BK410.out); replace BK410 := am (bb hb (kx BK410.out)); replace HB := am (below_step (zb1 HB.out GE410.out) hb); clear hb hbox hg; have hnb25 := NB410_411.out; have hnc25 := NB411_410.out; obtain ⟨hcz26_0, hcz26_1, hcz26_2, hcz26_3, hfz26_0, hfz26_1, hfz26_2, hfz26_3⟩ := zc4 BK410.out; obtain ⟨hcz27_0, hcz27_1, hcz27_2, hcz27_3, hfz27_0, hfz27_1, hfz27_2, hfz27_3⟩ := zc4 BK411.out))
   go_ret
   exact ⟨by first | rfl | (simp [errW_none, errW_some] <;> rfl) | (simp [*, errW_none, errW_some] <;> rfl), zb2 HB.out GE410.out GE411.out⟩
 ·rw [if_neg c3] at H
  have c3b0 : (a0_0 == a1_0) = false := beq_eq_false_iff_ne.mpr c3
  have c3b1 : (a0_0 != a1_0) = true := bne_iff_ne.mpr c3
  obtain rfl := Option.some.inj H
  go_enter Tryz.func24, Tryz.ntmps24
  go_wp2_with (first | ((with_reducible refine gate_dst (N := 2) rfl ?_); refine box_event ?hg (N := 2) ?hd (cs := #[.int .i64 a0_0, .int .i64 a0_1, .slice A0_2 l0_2.length c0_2, .string a0_3]) (t := 52) ?hr ?_; (case hd => rfl); (case hg => rfl); (case hr => first | (go_simp; done) | (go_simp; rfl)); intro gb410 hg w28 hbox hb; have BK410 := am (hbox); have GW410 := zge hg (zb0 HB.out); have GE410 := zge hg (zb0 HB.out); replace HB := am (below_step (zb0 HB.out) hb); clear hb hbox hg) | ((with_reducible refine gate_dst (N := 3) rfl ?_); refine box_event ?hg (N := 3) ?hd (cs := #[.int .i64 a1_0, .int .i64 a1_1, .slice A1_2 l1_2.length c1_2, .string a1_3]) (t := 52) ?hr ?_; (case hd => rfl); (case hg => rfl); (case hr => first | (go_simp; done) | (go_simp; rfl)); intro gb411 hg w29 hbox hb; have BK411 := am (hbox); have GW411 := zge hg (zb1 HB.out GE410.out); have GE411 := zge hg (zb1 HB.out GE410.out); have NB410_411 := znl hg (kx BK410.out); have NB411_410 := zng hg (kx BK410.out); replace BK410 := am (bb hb (kx BK410.out)); replace HB := am (below_step (zb1 HB.out GE410.out) hb); clear hb hbox hg; have hnb30 := NB410_411.out; have hnc30 := NB411_410.out; obtain ⟨hcz31_0, hcz31_1, hcz31_2, hcz31_3, hfz31_0, hfz31_1, hfz31_2, hfz31_3⟩ := zc4 BK410.out; obtain ⟨hcz32_0, hcz32_1, hcz32_2, hcz32_3, hfz32_0, hfz32_1, hfz32_2, hfz32_3⟩ := zc4 BK411.out))
  go_ret
  exact ⟨by first | rfl | (simp [errW_none, errW_some] <;> rfl) | (simp [*, errW_none, errW_some] <;> rfl), zb2 HB.out GE410.out GE411.out⟩

end Go.Proofs.YtogifkjkbfdocaaGreatDoor.QFnExactSnapActs
