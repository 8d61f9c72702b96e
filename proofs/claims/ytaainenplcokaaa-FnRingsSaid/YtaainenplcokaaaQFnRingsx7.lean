/- Written by the kit's print.py, called by our own print2.sh with one import more; not by print.sh. -/
import Derived.Test.YtaainenplcokaaaQFnRingsx0
import Derived.Test.YtaainenplcokaaaQFnRingsx2
import Derived.Test.YtaainenplcokaaaQFnRingsx4
import Derived.Test.YtaainenplcokaaaQFnRingsx5
import Derived.Test.YtaainenplcokaaaQFnRingsx6
namespace Go.Proofs.Ytaainenplcokaaa.QFnRings
open Go.RowKit Go.Proofs.YtaainenplcokaaaW.PrintWords Go.Proofs.YtaainenplcokaaaW.PrintLast Go.Proofs.YtaainenplcokaaaW.PrintMore
attribute [local go_sem] max2_int min2_int max_two min_two max_three min_three max_four min_four   -- for this text's walks alone
set_option linter.unusedVariables false
set_option linter.unusedSimpArgs false

/-! ### laws_FnRings: function 7 -/
mutual
def laws_FnRings.l0 : Nat → Int → Int → Int → Int → List (S138) → Int → Int → Option (Bool)
  | 0, _, _, _, _, _, _, _ => none
  | k + 1, x4, x5, x6, x7, x283000, x283001, x283002 => if x7 < (wrap64 (x4 + 1)) then ((spec_Decimal.f k x7).bind fun t284 => (if 4 + t284.size ≤ 9223372036854775807 then ((impl_PostRing.f k x283000 x283001 x283002 ((⟨#[116, 101, 120, 116]⟩ : ByteArray) ++ t284)).bind fun bt285 => (if (bt285.2.2.2 != (decide ((wrap64 (x5 + x6)) < x4))) = true then (laws_FnRings.j1 k x4 x5 x6 x7 bt285.2.2.2 true bt285.1 bt285.2.1 bt285.2.2.1) else ((impl_RingOk.f k bt285.1 bt285.2.1 bt285.2.2.1).bind fun t292 => (laws_FnRings.j1 k x4 x5 x6 x7 bt285.2.2.2 (!t292) bt285.1 bt285.2.1 bt285.2.2.1)))) else (none))) else ((impl_HeldBy.f k x283000 x283001 x283002).bind fun t293 => (if t293 = x4 then (laws_FnRings.j2 k x4 x5 (x6 != (wrap64 (x4 - x5))) x283000 x283001 x283002) else (laws_FnRings.j2 k x4 x5 true x283000 x283001 x283002)))
def laws_FnRings.j1 : Nat → Int → Int → Int → Int → Bool → Bool → List (S138) → Int → Int → Option (Bool)
  | 0, _, _, _, _, _, _, _, _, _ => none
  | k + 1, x4, x5, x6, x7, x9, x51, x292000, x292001, x292002 => if x51 = true then (some false) else (if x9 = true then (laws_FnRings.l0 k x4 x5 (wrap64 (x6 + 1)) (wrap64 (x7 + 1)) x292000 x292001 x292002) else (laws_FnRings.l0 k x4 x5 x6 (wrap64 (x7 + 1)) x292000 x292001 x292002))
def laws_FnRings.j2 : Nat → Int → Int → Bool → List (S138) → Int → Int → Option (Bool)
  | 0, _, _, _, _, _, _ => none
  | k + 1, x4, x5, x66, x283000, x283001, x283002 => if x66 = true then (some false) else (laws_FnRings.l1 k x4 x5 0 x283000 x283001 x283002)
def laws_FnRings.l1 : Nat → Int → Int → Int → List (S138) → Int → Int → Option (Bool)
  | 0, _, _, _, _, _, _ => none
  | k + 1, x4, x5, x10, x283000, x283001, x283002 => if x10 < x4 then ((impl_TakeRing.f k x283000 x283001 x283002).bind fun bt304 => (if bt304.2.2.2.2 = true then (if x10 ≥ x5 then ((spec_Decimal.f k (wrap64 (x10 - x5))).bind fun t312 => (if 4 + t312.size ≤ 9223372036854775807 then (if bt304.2.2.2.1.toList = ((⟨#[116, 101, 120, 116]⟩ : ByteArray) ++ t312).toList then ((impl_HeldBy.f k bt304.1 bt304.2.1 bt304.2.2.1).bind fun t313 => (if t313 = (wrap64 ((wrap64 (x4 - x10)) - 1)) then (laws_FnRings.l1 k x4 x5 (wrap64 (x10 + 1)) bt304.1 bt304.2.1 bt304.2.2.1) else (some false))) else (some false)) else (none))) else ((impl_HeldBy.f k bt304.1 bt304.2.1 bt304.2.2.1).bind fun t314 => (if t314 = (wrap64 ((wrap64 (x4 - x10)) - 1)) then (laws_FnRings.l1 k x4 x5 (wrap64 (x10 + 1)) bt304.1 bt304.2.1 bt304.2.2.1) else (some false)))) else (some false))) else ((impl_TakeRing.f k x283000 x283001 x283002).bind fun bt294 => (if bt294.2.2.2.2 = true then (some false) else ((impl_RingOk.f k x283000 x283001 x283002).bind fun t302 => (if t302 = true then ((impl_HeldBy.f k x283000 x283001 x283002).bind fun t303 => (some (t303 == 0))) else (some false)))))
end
def laws_FnRings.f (k : Nat) (l0 : List Int) : Option (Bool) := (laws_big.f l0).bind fun t276 => (if t276 = true then (some true) else ((spec_DrawRing.f k l0).bind fun bt277 => ((impl_HeldBy.f k bt277.1 bt277.2.1 bt277.2.2).bind fun t283 => (laws_FnRings.l0 k (bt277.1.length : Int) t283 0 0 bt277.1 bt277.2.1 bt277.2.2))))
theorem laws_FnRings.mono_l : ∀ k, (∀ y0 y1 y2 y3 y4 y5 y6, LeO (laws_FnRings.l0 k y0 y1 y2 y3 y4 y5 y6) (laws_FnRings.l0 (k + 1) y0 y1 y2 y3 y4 y5 y6)) ∧ (∀ y0 y1 y2 y3 y4 y5 y6 y7 y8, LeO (laws_FnRings.j1 k y0 y1 y2 y3 y4 y5 y6 y7 y8) (laws_FnRings.j1 (k + 1) y0 y1 y2 y3 y4 y5 y6 y7 y8)) ∧ (∀ y0 y1 y2 y3 y4 y5, LeO (laws_FnRings.j2 k y0 y1 y2 y3 y4 y5) (laws_FnRings.j2 (k + 1) y0 y1 y2 y3 y4 y5)) ∧ (∀ y0 y1 y2 y3 y4 y5, LeO (laws_FnRings.l1 k y0 y1 y2 y3 y4 y5) (laws_FnRings.l1 (k + 1) y0 y1 y2 y3 y4 y5))
  | 0 => ⟨fun _ _ _ _ _ _ _ r h => by simp [laws_FnRings.l0] at h, fun _ _ _ _ _ _ _ _ _ r h => by simp [laws_FnRings.j1] at h, fun _ _ _ _ _ _ r h => by simp [laws_FnRings.j2] at h, fun _ _ _ _ _ _ r h => by simp [laws_FnRings.l1] at h⟩
  | k + 1 => by
    obtain ⟨ih0, ih1, ih2, ih3⟩ := laws_FnRings.mono_l k
    refine ⟨?_, ?_, ?_, ?_⟩
    · intro y0 y1 y2 y3 y4 y5 y6
      unfold laws_FnRings.l0
      repeat' first
      | (with_reducible exact ih0 _ _ _ _ _ _ _)
      | (with_reducible exact ih1 _ _ _ _ _ _ _ _ _)
      | (with_reducible exact ih2 _ _ _ _ _ _)
      | (with_reducible exact ih3 _ _ _ _ _ _)
      | (with_reducible exact impl_HeldBy.mono _ _ _ _)
      | (with_reducible exact impl_PostRing.mono _ _ _ _ _)
      | (with_reducible exact impl_RingOk.mono _ _ _ _)
      | (with_reducible exact impl_TakeRing.mono _ _ _ _)
      | (with_reducible exact spec_Decimal.mono _ _)
      | (with_reducible exact spec_DrawRing.mono _ _)
      | (with_reducible exact LeO.refl _)
      | (with_reducible exact LeO.none _)
      | (with_reducible refine LeO.ite ?_ ?_)
      | (with_reducible refine LeO.bind ?_ (fun _ => ?_))
      | exact ih0 _ _ _ _ _ _ _
      | exact ih1 _ _ _ _ _ _ _ _ _
      | exact ih2 _ _ _ _ _ _
      | exact ih3 _ _ _ _ _ _
      | exact impl_HeldBy.mono _ _ _ _
      | exact impl_PostRing.mono _ _ _ _ _
      | exact impl_RingOk.mono _ _ _ _
      | exact impl_TakeRing.mono _ _ _ _
      | exact spec_Decimal.mono _ _
      | exact spec_DrawRing.mono _ _
      | exact LeO.none _
      | refine LeO.ite ?_ ?_
      | refine LeO.bind ?_ (fun _ => ?_)
    · intro y0 y1 y2 y3 y4 y5 y6 y7 y8
      unfold laws_FnRings.j1
      repeat' first
      | (with_reducible exact ih0 _ _ _ _ _ _ _)
      | (with_reducible exact ih1 _ _ _ _ _ _ _ _ _)
      | (with_reducible exact ih2 _ _ _ _ _ _)
      | (with_reducible exact ih3 _ _ _ _ _ _)
      | (with_reducible exact impl_HeldBy.mono _ _ _ _)
      | (with_reducible exact impl_PostRing.mono _ _ _ _ _)
      | (with_reducible exact impl_RingOk.mono _ _ _ _)
      | (with_reducible exact impl_TakeRing.mono _ _ _ _)
      | (with_reducible exact spec_Decimal.mono _ _)
      | (with_reducible exact spec_DrawRing.mono _ _)
      | (with_reducible exact LeO.refl _)
      | (with_reducible exact LeO.none _)
      | (with_reducible refine LeO.ite ?_ ?_)
      | (with_reducible refine LeO.bind ?_ (fun _ => ?_))
      | exact ih0 _ _ _ _ _ _ _
      | exact ih1 _ _ _ _ _ _ _ _ _
      | exact ih2 _ _ _ _ _ _
      | exact ih3 _ _ _ _ _ _
      | exact impl_HeldBy.mono _ _ _ _
      | exact impl_PostRing.mono _ _ _ _ _
      | exact impl_RingOk.mono _ _ _ _
      | exact impl_TakeRing.mono _ _ _ _
      | exact spec_Decimal.mono _ _
      | exact spec_DrawRing.mono _ _
      | exact LeO.none _
      | refine LeO.ite ?_ ?_
      | refine LeO.bind ?_ (fun _ => ?_)
    · intro y0 y1 y2 y3 y4 y5
      unfold laws_FnRings.j2
      repeat' first
      | (with_reducible exact ih0 _ _ _ _ _ _ _)
      | (with_reducible exact ih1 _ _ _ _ _ _ _ _ _)
      | (with_reducible exact ih2 _ _ _ _ _ _)
      | (with_reducible exact ih3 _ _ _ _ _ _)
      | (with_reducible exact impl_HeldBy.mono _ _ _ _)
      | (with_reducible exact impl_PostRing.mono _ _ _ _ _)
      | (with_reducible exact impl_RingOk.mono _ _ _ _)
      | (with_reducible exact impl_TakeRing.mono _ _ _ _)
      | (with_reducible exact spec_Decimal.mono _ _)
      | (with_reducible exact spec_DrawRing.mono _ _)
      | (with_reducible exact LeO.refl _)
      | (with_reducible exact LeO.none _)
      | (with_reducible refine LeO.ite ?_ ?_)
      | (with_reducible refine LeO.bind ?_ (fun _ => ?_))
      | exact ih0 _ _ _ _ _ _ _
      | exact ih1 _ _ _ _ _ _ _ _ _
      | exact ih2 _ _ _ _ _ _
      | exact ih3 _ _ _ _ _ _
      | exact impl_HeldBy.mono _ _ _ _
      | exact impl_PostRing.mono _ _ _ _ _
      | exact impl_RingOk.mono _ _ _ _
      | exact impl_TakeRing.mono _ _ _ _
      | exact spec_Decimal.mono _ _
      | exact spec_DrawRing.mono _ _
      | exact LeO.none _
      | refine LeO.ite ?_ ?_
      | refine LeO.bind ?_ (fun _ => ?_)
    · intro y0 y1 y2 y3 y4 y5
      unfold laws_FnRings.l1
      repeat' first
      | (with_reducible exact ih0 _ _ _ _ _ _ _)
      | (with_reducible exact ih1 _ _ _ _ _ _ _ _ _)
      | (with_reducible exact ih2 _ _ _ _ _ _)
      | (with_reducible exact ih3 _ _ _ _ _ _)
      | (with_reducible exact impl_HeldBy.mono _ _ _ _)
      | (with_reducible exact impl_PostRing.mono _ _ _ _ _)
      | (with_reducible exact impl_RingOk.mono _ _ _ _)
      | (with_reducible exact impl_TakeRing.mono _ _ _ _)
      | (with_reducible exact spec_Decimal.mono _ _)
      | (with_reducible exact spec_DrawRing.mono _ _)
      | (with_reducible exact LeO.refl _)
      | (with_reducible exact LeO.none _)
      | (with_reducible refine LeO.ite ?_ ?_)
      | (with_reducible refine LeO.bind ?_ (fun _ => ?_))
      | exact ih0 _ _ _ _ _ _ _
      | exact ih1 _ _ _ _ _ _ _ _ _
      | exact ih2 _ _ _ _ _ _
      | exact ih3 _ _ _ _ _ _
      | exact impl_HeldBy.mono _ _ _ _
      | exact impl_PostRing.mono _ _ _ _ _
      | exact impl_RingOk.mono _ _ _ _
      | exact impl_TakeRing.mono _ _ _ _
      | exact spec_Decimal.mono _ _
      | exact spec_DrawRing.mono _ _
      | exact LeO.none _
      | refine LeO.ite ?_ ?_
      | refine LeO.bind ?_ (fun _ => ?_)
theorem laws_FnRings.mono : ∀ a0 k, LeO (laws_FnRings.f k a0) (laws_FnRings.f (k + 1) a0) := by
  intro a0 k
  obtain ⟨ih0, ih1, ih2, ih3⟩ := laws_FnRings.mono_l k
  unfold laws_FnRings.f
  repeat' first
      | (with_reducible exact ih0 _ _ _ _ _ _ _)
      | (with_reducible exact ih1 _ _ _ _ _ _ _ _ _)
      | (with_reducible exact ih2 _ _ _ _ _ _)
      | (with_reducible exact ih3 _ _ _ _ _ _)
      | (with_reducible exact impl_HeldBy.mono _ _ _ _)
      | (with_reducible exact impl_PostRing.mono _ _ _ _ _)
      | (with_reducible exact impl_RingOk.mono _ _ _ _)
      | (with_reducible exact impl_TakeRing.mono _ _ _ _)
      | (with_reducible exact spec_Decimal.mono _ _)
      | (with_reducible exact spec_DrawRing.mono _ _)
      | (with_reducible exact LeO.refl _)
      | (with_reducible exact LeO.none _)
      | (with_reducible refine LeO.ite ?_ ?_)
      | (with_reducible refine LeO.bind ?_ (fun _ => ?_))
      | exact ih0 _ _ _ _ _ _ _
      | exact ih1 _ _ _ _ _ _ _ _ _
      | exact ih2 _ _ _ _ _ _
      | exact ih3 _ _ _ _ _ _
      | exact impl_HeldBy.mono _ _ _ _
      | exact impl_PostRing.mono _ _ _ _ _
      | exact impl_RingOk.mono _ _ _ _
      | exact impl_TakeRing.mono _ _ _ _
      | exact spec_Decimal.mono _ _
      | exact spec_DrawRing.mono _ _
      | exact LeO.none _
      | refine LeO.ite ?_ ?_
      | refine LeO.bind ?_ (fun _ => ?_)
def laws_FnRings.T10 : Bool × List (List Nat × List Nat) := (true, [([], []), ([], []), ([1], [1]), ([2], [2]), ([0, 3, 2], [0, 3]), ([4], [4]), ([5], [5]), ([5], [5]), ([], []), ([8, 6, 4, 0, 1, 2, 3, 4, 5, 6, 8], [6, 8]), ([7, 9, 0, 1, 2, 3, 4, 5, 6, 7, 8, 9], [7])])
def laws_FnRings.B10 : List Nat := [0, 0, 2, 6, 15, 31, 63, 63, 0, 383, 1023]
theorem laws_FnRings.tab10 : rtab .any (opsOf Try.f7 10) = laws_FnRings.T10 := by kernel_rfl
theorem laws_FnRings.bits10 : waitsOk laws_FnRings.T10.2 laws_FnRings.B10 = true := by kernel_rfl
set_option maxHeartbeats 8000000 in
set_option maxRecDepth 100000 in
theorem laws_FnRings.calls (k : Nat) (A0 : Option Addr) (c0 : Nat) (l0 : List Int) (r : Bool) (w : World) (hr0 : Kd.C (Kd.int .u8) w A0 l0.length l0) (hc0 : l0.length ≤ c0) (h : laws_FnRings.f k l0 = some r) (hrt : r = true := by rfl) :
    Calls Try.prog 7 #[.slice A0 l0.length c0] w fun e w' => e = .returned (.bool r) ∧ Below w.heap.size w w' := by
  have hu57 := Try.underlying57
  have HR0 := Aside0.mk hr0
  have HC0 := Aside0.mk hc0
  clear hr0 hc0
  have HB := Aside0.mk (Below.refl w.heap.size w)
  have HLT := Aside0.mk hrt
  clear hrt
  have H : ((laws_big.f l0).bind fun t276 => (if t276 = true then (some true) else ((spec_DrawRing.f k l0).bind fun bt277 => ((impl_HeldBy.f k bt277.1 bt277.2.1 bt277.2.2).bind fun t283 => (laws_FnRings.l0 k (bt277.1.length : Int) t283 0 0 bt277.1 bt277.2.1 bt277.2.2))))) = some r := h
  clear h
  replace H := Option.bind_eq_some_iff.mp H
  obtain ⟨t276, A20, H⟩ := H
  replace H : (if t276 = true then (some true) else ((spec_DrawRing.f k l0).bind fun bt277 => ((impl_HeldBy.f k bt277.1 bt277.2.1 bt277.2.2).bind fun t283 => (laws_FnRings.l0 k (bt277.1.length : Int) t283 0 0 bt277.1 bt277.2.1 bt277.2.2)))) = some r := H
  have A2 := Aside0.mk A20
  clear A20
  by_cases c3 : t276 = true
  · subst c3
    have H1 : (some true) = some r := by rw [if_pos rfl] at H; exact H
    clear H
    have H := H1
    clear H1
    obtain rfl := Option.some.inj H
    go_enter Try.func7, Try.ntmps7
    go_wp2_with (first | ((with_reducible refine gate_callee (f := 15) rfl ?_); refine goesL_ (some 18) rfl rfl Try.func15 (by kernel_rfl) rfl #[.slice A0 l0.length c0] rfl (by (try simp only [List.map_toArray, List.map_cons, List.map_nil]); first | done | rfl | (simp only [List.length_drop, List.length_take]; rfl)) ?_; (with_reducible refine (laws_big.calls _ _ l0 true _ ?side1 ?side2 A2.out).mono ?_); (case side1 => repeat (first | exact HR0.out | (with_reducible refine Kd.C_alloc ?_ _) | (with_reducible refine Kd.C_drewN ?_ _) | (with_reducible refine Kd.C_drew ?_))); (case side2 => exact HC0.out); rintro e w' ⟨rfl, ⟨nd, rfl⟩⟩; refine ⟨_, rfl, ?_⟩))
    go_ret
    exact ⟨by first | rfl | (simp [errW_none, errW_some] <;> rfl) | (simp [*, errW_none, errW_some] <;> rfl), by repeat (first | (with_reducible first | exact HB.out | apply below_alloc | apply pw_below_drewN | apply below_drew1) | exact HB.out)⟩
  · replace c3 := Bool.eq_false_iff.mpr c3
    subst c3
    have H1 : ((spec_DrawRing.f k l0).bind fun bt277 => ((impl_HeldBy.f k bt277.1 bt277.2.1 bt277.2.2).bind fun t283 => (laws_FnRings.l0 k (bt277.1.length : Int) t283 0 0 bt277.1 bt277.2.1 bt277.2.2))) = some r := by rw [if_neg (show ¬ (false = true) by decide)] at H; exact H
    clear H
    have H := H1
    clear H1
    replace H := Option.bind_eq_some_iff.mp H
    obtain ⟨⟨t277, t280, t281⟩, A40, H⟩ := H
    replace H : ((impl_HeldBy.f k t277 t280 t281).bind fun t283 => (laws_FnRings.l0 k (t277.length : Int) t283 0 0 t277 t280 t281)) = some r := H
    have A4 := Aside0.mk A40
    clear A40
    replace H := Option.bind_eq_some_iff.mp H
    obtain ⟨t283, A50, H⟩ := H
    replace H : (laws_FnRings.l0 k (t277.length : Int) t283 0 0 t277 t280 t281) = some r := H
    have A5 := Aside0.mk A50
    clear A50
    have H' := Aside0.mk H
    clear H
    go_enter Try.func7, Try.ntmps7
    go_wp2_with (first | ((with_reducible refine gate_callee (f := 15) rfl ?_); refine goesL_ (some 18) rfl rfl Try.func15 (by kernel_rfl) rfl #[.slice A0 l0.length c0] rfl (by (try simp only [List.map_toArray, List.map_cons, List.map_nil]); first | done | rfl | (simp only [List.length_drop, List.length_take]; rfl)) ?_; (with_reducible refine (laws_big.calls _ _ l0 false _ ?side1 ?side2 A2.out).mono ?_); (case side1 => repeat (first | exact HR0.out | (with_reducible refine Kd.C_alloc ?_ _) | (with_reducible refine Kd.C_drewN ?_ _) | (with_reducible refine Kd.C_drew ?_))); (case side2 => exact HC0.out); rintro e w' ⟨rfl, ⟨nd, rfl⟩⟩; refine ⟨_, rfl, ?_⟩) | ((with_reducible refine gate_callee (f := 38) rfl ?_); refine goesL_ (some 20) rfl rfl Try.func38 (by kernel_rfl) rfl #[.slice A0 l0.length c0] rfl (by (try simp only [List.map_toArray, List.map_cons, List.map_nil]); first | done | rfl | (simp only [List.length_drop, List.length_take]; rfl)) ?_; (with_reducible refine (spec_DrawRing.calls k _ _ l0 t277 t280 t281 _ ?side1 ?side2 A4.out).mono ?_); (case side1 => repeat (first | exact HR0.out | (with_reducible refine Kd.C_alloc ?_ _) | (with_reducible refine Kd.C_drewN ?_ _) | (with_reducible refine Kd.C_drew ?_))); (case side2 => exact HC0.out); rintro e w6 ⟨v278, rfl, ho0, hb⟩; refine ⟨_, rfl, ?_⟩; have n0_ := Aside0.mk (Kd.R_lower ho0 (below_size (by repeat (first | (with_reducible first | exact HB.out | apply below_alloc | apply pw_below_drewN | apply below_drew1) | exact HB.out)))); have n1_ := Aside0.mk (below_step (by repeat (first | (with_reducible first | exact HB.out | apply below_alloc | apply pw_below_drewN | apply below_drew1) | exact HB.out)) hb); clear HB; have HO279 := n0_; have HB := n1_; clear n0_ n1_; (try clear hb); (try clear hb2); (try clear hk); (try clear hi); (try clear ho0)) | ((with_reducible refine gate_dst (N := 3) rfl ?_); refine box_event ?hg (N := 3) ?hd (cs := #[.slice none 0 0, .int .i64 0, .int .i64 0]) (t := 57) ?hr ?_; (case hd => rfl); (case hg => rfl); (case hr => first | (go_simp; done) | (go_simp; rfl)); intro gb282 hg w7 hbox hb; have n0_ := Aside0.mk (Kd.R_below (by (with_reducible repeat (first | apply Kd.R_alloc | apply Kd.R_drewN | apply Kd.R_drew)); exact HO279.out) hb); have n1_ := Aside0.mk (below_step (by repeat (first | (with_reducible first | exact HB.out | apply below_alloc | apply pw_below_drewN | apply below_drew1) | exact HB.out)) hb); have n2_ := Aside0.mk (hbox); have n3_ := Aside0.mk ((by rw [hg]; exact (below_size (by repeat (first | (with_reducible first | exact HB.out | apply below_alloc | apply pw_below_drewN | apply below_drew1) | exact HB.out))) : w.heap.size ≤ gb282)); have n4_ := Aside0.mk ((by rw [hg]; exact (below_size (by repeat (first | (with_reducible first | exact HB.out | apply below_alloc | apply pw_below_drewN | apply below_drew1) | exact HB.out))) : w.heap.size ≤ gb282)); clear HO279; clear HB; have HO279 := n0_; have HB := n1_; have BK282 := n2_; have GW282 := n3_; have GE282 := n4_; clear n0_ n1_ n2_ n3_ n4_; clear hb hbox hg; obtain ⟨Ao8, co8, eo8⟩ := Kd.R_slice HO279.out; subst eo8; have hcz9_0 : w7.cell? ⟨gb282, 0, none⟩ = some (.slice none 0 0) := (blk_cell BK282.out 0).trans rfl; have hcz9_1 : w7.cell? ⟨gb282, 1, none⟩ = some (.int .i64 0) := (blk_cell BK282.out 1).trans rfl; have hcz9_2 : w7.cell? ⟨gb282, 2, none⟩ = some (.int .i64 0) := (blk_cell BK282.out 2).trans rfl; have hfz9_0 := blk_frozen BK282.out 0; have hfz9_1 := blk_frozen BK282.out 1; have hfz9_2 := blk_frozen BK282.out 2) | ((with_reducible refine gate_callee (f := 39) rfl ?_); refine goesL_ (some 25) rfl rfl Try.func39 (by kernel_rfl) rfl #[.agg #[.slice Ao8 t277.length co8, .int .i64 t280, .int .i64 t281]] rfl (by (try simp only [List.map_toArray, List.map_cons, List.map_nil]); first | done | rfl | (simp only [List.length_drop, List.length_take]; rfl)) ?_; (with_reducible refine (impl_HeldBy.calls k _ _ t277 t280 t281 t283 _ ?side1 ?side2 A5.out).mono ?_); (case side1 => refine (Kd.R_reads' (e := 138) (base := w.heap.size) (ok := fun k_ => True) (n := t277.length) (c := co8) ?_).2.2; exact (by (with_reducible repeat (first | apply Kd.R_alloc | apply Kd.R_drewN | apply Kd.R_drew)); exact (Kd.R_mono (Kd.R_far (p := ⟨gb282, 2, none⟩) (Kd.R_far (p := ⟨gb282, 1, none⟩) (Kd.R_far (p := ⟨gb282, 0, none⟩) (Kd.R_types HO279.out BK282.out (by decide)) (fun _ hk => hk.2) (.slice Ao8 t277.length co8)) (fun _ hk => hk.2) (.int .i64 t280)) (fun _ hk => hk.2) (.int .i64 t281)) (fun _ h_ => h_.1)))); (case side2 => exact (Kd.R_reads' HO279.out).2.1); rintro e w10 ⟨rfl, hb⟩; refine ⟨_, rfl, ?_⟩; have n0_ := Aside0.mk (Kd.R_below (by (with_reducible repeat (first | apply Kd.R_alloc | apply Kd.R_drewN | apply Kd.R_drew)); exact (Kd.R_mono (Kd.R_far (p := ⟨gb282, 2, none⟩) (Kd.R_far (p := ⟨gb282, 1, none⟩) (Kd.R_far (p := ⟨gb282, 0, none⟩) (Kd.R_types HO279.out BK282.out (by decide)) (fun _ hk => hk.2) (.slice Ao8 t277.length co8)) (fun _ hk => hk.2) (.int .i64 t280)) (fun _ hk => hk.2) (.int .i64 t281)) (fun _ h_ => h_.1))) hb); have n1_ := Aside0.mk (blk_below (g := gb282) (o := .cells #[.slice Ao8 t277.length co8, .int .i64 t280, .int .i64 t281] 57 (0, 0)) (by (with_reducible repeat (first | refine blk_drewN ?_ _ | refine blk_drew ?_ | refine blk_alloc ?_ _)); refine blk_put (cs := #[.slice Ao8 t277.length co8, .int .i64 t280, .int .i64 0]) ?_ 2 _ rfl; (with_reducible repeat (first | refine blk_drewN ?_ _ | refine blk_drew ?_ | refine blk_alloc ?_ _)); refine blk_put (cs := #[.slice Ao8 t277.length co8, .int .i64 0, .int .i64 0]) ?_ 1 _ rfl; (with_reducible repeat (first | refine blk_drewN ?_ _ | refine blk_drew ?_ | refine blk_alloc ?_ _)); refine blk_put (cs := #[.slice none 0 0, .int .i64 0, .int .i64 0]) ?_ 0 _ rfl; (with_reducible repeat (first | refine blk_drewN ?_ _ | refine blk_drew ?_ | refine blk_alloc ?_ _)); exact BK282.out) hb); have n2_ := Aside0.mk (below_step (by repeat (first | (with_reducible first | exact HB.out | apply below_alloc | apply pw_below_drewN | apply below_drew1 | refine below_set ?_ GE282.out) | exact HB.out)) hb); clear HO279; clear BK282; clear HB; have HO279 := n0_; have BK282 := n1_; have HB := n2_; clear n0_ n1_ n2_; (try clear hb); (try clear hb2); (try clear hk); (try clear hi)))
    go_loopg [6, 7] k (fun kq v6 v7 w' => ∃ (x6_1 : Int) (x7_1 : Int) (x283000_1 : List (S138)) (x283001_1 : Int) (x283002_1 : Int) (u283000 : Value), v6 = .int .i64 x6_1 ∧ v7 = .int .i64 x7_1 ∧ Aside0 (laws_FnRings.l0 kq (t277.length : Int) t283 x6_1 x7_1 x283000_1 x283001_1 x283002_1 = some r) ∧ Aside0 (kq ≤ k) ∧ Aside0 (Kd.R k138 138 w' w.heap.size (fun _ => True) u283000 x283000_1) ∧ Aside0 (w'.heap[gb282]? = some (.cells #[u283000, .int .i64 x283001_1, .int .i64 x283002_1] 57 (0, 0))) ∧ Aside0 (Below w.heap.size w w'))
    case atStart => exact ⟨(0), (0), (t277), (t280), (t281), (.slice Ao8 t277.length co8), (by first | rfl | (simp; done) | (simp [*]; done)), (by first | rfl | (simp; done) | (simp [*]; done)), H', ⟨Nat.le_refl _⟩, ⟨by (with_reducible repeat (first | apply Kd.R_alloc | apply Kd.R_drewN | apply Kd.R_drew)); exact HO279.out⟩, ⟨by (with_reducible repeat (first | refine blk_drewN ?_ _ | refine blk_drew ?_ | refine blk_alloc ?_ _)); exact BK282.out⟩, ⟨by repeat (first | (with_reducible first | exact HB.out | apply below_alloc | apply pw_below_drewN | apply below_drew1 | refine below_set ?_ GE282.out) | exact HB.out)⟩⟩
    case round =>
      clear H'
      try clear c1
      try clear p2
      try clear c3
      try clear c7
      try clear hcz9_0
      try clear hcz9_1
      try clear hcz9_2
      try clear hfz9_0
      try clear hfz9_1
      try clear hfz9_2
      obtain ⟨x6_1, x7_1, x283000_1, x283001_1, x283002_1, u283000, rfl, rfl, HA, HK1, HO_283000, BK282, HB⟩ := hrel
      cases gk with
      | zero => exact absurd HA.out (by simp [laws_FnRings.l0])
      | succ k1 =>
        have H := HA.out
        clear HA
        simp only [laws_FnRings.l0] at H
        by_cases c11 : x7_1 < (wrap64 ((t277.length : Int) + 1))
        · rw [if_pos c11] at H
          have c11b0 : decide (x7_1 < (wrap64 ((t277.length : Int) + 1))) = true := decide_eq_true c11
          have c11b1 : decide ((wrap64 ((t277.length : Int) + 1)) ≤ x7_1) = false := decide_eq_false (by omega)
          clear c11
          replace H := Option.bind_eq_some_iff.mp H
          obtain ⟨t284, A120, H⟩ := H
          replace H : (if 4 + t284.size ≤ 9223372036854775807 then ((impl_PostRing.f k1 x283000_1 x283001_1 x283002_1 ((⟨#[116, 101, 120, 116]⟩ : ByteArray) ++ t284)).bind fun bt285 => (if (bt285.2.2.2 != (decide ((wrap64 (t283 + x6_1)) < (t277.length : Int)))) = true then (laws_FnRings.j1 k1 (t277.length : Int) t283 x6_1 x7_1 bt285.2.2.2 true bt285.1 bt285.2.1 bt285.2.2.1) else ((impl_RingOk.f k1 bt285.1 bt285.2.1 bt285.2.2.1).bind fun t292 => (laws_FnRings.j1 k1 (t277.length : Int) t283 x6_1 x7_1 bt285.2.2.2 (!t292) bt285.1 bt285.2.1 bt285.2.2.1)))) else (none)) = some r := H
          have A12 := Aside0.mk A120
          clear A120
          by_cases c13 : 4 + t284.size ≤ 9223372036854775807
          · rw [if_pos c13] at H
            have c13b0 := eq_true c13
            have c13b1 : decide (4 + t284.size ≤ 9223372036854775807) = true := decide_eq_true c13
            try have c13b2 : (9223372036854775807 < 4 + t284.size) = False := eq_false (Nat.not_lt.2 c13)
            replace H := Option.bind_eq_some_iff.mp H
            obtain ⟨⟨t285, t288, t289, t290⟩, A140, H⟩ := H
            replace H : (if (t290 != (decide ((wrap64 (t283 + x6_1)) < (t277.length : Int)))) = true then (laws_FnRings.j1 k1 (t277.length : Int) t283 x6_1 x7_1 t290 true t285 t288 t289) else ((impl_RingOk.f k1 t285 t288 t289).bind fun t292 => (laws_FnRings.j1 k1 (t277.length : Int) t283 x6_1 x7_1 t290 (!t292) t285 t288 t289))) = some r := H
            have A14 := Aside0.mk A140
            clear A140
            have HC15 := Aside0.mk H
            clear H
            obtain ⟨Ao16, co16, eo16⟩ := Kd.R_slice HO_283000.out
            subst eo16
            try go_wp2
            have n0_ := Aside0.mk (Kd.R_drew HO_283000.out)
            have n1_ := Aside0.mk (blk_drew BK282.out)
            have n2_ := Aside0.mk (below_drew1 HB.out)
            clear HO_283000
            clear BK282
            clear HB
            have HO_283000 := n0_
            have BK282 := n1_
            have HB := n2_
            clear n0_ n1_ n2_
            refine start_ (n := 11) (S := fun w' => w'.cell? ⟨gb282, 0, none⟩ = some (.slice Ao16 x283000_1.length co16) ∧ w'.cell? ⟨gb282, 1, none⟩ = some (.int .i64 x283001_1) ∧ w'.cell? ⟨gb282, 2, none⟩ = some (.int .i64 x283002_1)) (ds := []) #[false, false, false, false, false, false, false, false, false, false, false] (by kernel_rfl) rfl rfl ⟨(blk_cell BK282.out 0).trans rfl, (blk_cell BK282.out 1).trans rfl, (blk_cell BK282.out 2).trans rfl⟩ (fun hHeld => ?_); refine with_tabW laws_FnRings.tab10 laws_FnRings.bits10 (fun HT_ HW_ => ?_)
            generalize wr.drew = w17 at HO_283000 BK282 HB hHeld ⊢
            refine pure_ (i := 1) (N := some 34) (v := ?_) (a' := ?_) #[false, true, false, false, false, false, false, false, false, false, false] rfl rfl (any_of HT_.out (by kernel_rfl)) (fun _ _ _ h => h) (Or.inl ⟨by rfl, ?_⟩) ?_ ?_
            rotate_left
            · intro w'
              go_simp
              with_reducible rfl
            rotate_left
            · simp only [Act.put, List.setIfInBounds_toArray, List.set_cons_zero, List.set_cons_succ, i64_w, i32_w]
              rfl
            refine take_ (i := 0) (N := some 33) (v := ?_) (a' := ?_) #[true, true, false, false, false, false, false, false, false, false, false] rfl rfl (take_ofW HT_.out HW_.out (by kernel_rfl)) (fun _ _ _ h => h) (Or.inl ⟨by rfl, ?_⟩) hHeld ?_ ?_
            rotate_left
            · rintro w' ⟨s0, s1, s2⟩
              go_simp
              with_reducible rfl
            rotate_left
            · simp only [Act.put, List.setIfInBounds_toArray, List.set_cons_zero, List.set_cons_succ, i64_w, i32_w]
              rfl
            refine join_ (σ := Value × Nat) 2 #[true, true, true, true, true, true, true, true, true, false, false] (fun s_ => [(35, .string t284), (37, .tuple #[.agg #[s_.1, .int .i64 t288, .int .i64 t289], .bool t290]), (8, .pointer (some ⟨s_.2, 0, none⟩)), (36, .string ((⟨#[116, 101, 120, 116]⟩ : ByteArray) ++ t284)), (32, .tuple #[.agg #[s_.1, .int .i64 t288, .int .i64 t289], .bool t290]), (38, .agg #[s_.1, .int .i64 t288, .int .i64 t289]), (39, .bool t290)]) (fun s_ w' => (w'.cell? ⟨gb282, 0, none⟩ = some (.slice Ao16 x283000_1.length co16) ∧ w'.cell? ⟨gb282, 1, none⟩ = some (.int .i64 x283001_1) ∧ w'.cell? ⟨gb282, 2, none⟩ = some (.int .i64 x283002_1)) ∧ (Kd.R k138 138 w' w.heap.size (fun k_ => some k_ ≠ (.slice Ao16 x283000_1.length co16 : Value).ownBlock) s_.1 t285) ∧ (Kd.R k138 138 w' w.heap.size (fun k_ => some k_ ≠ (s_.1 : Value).ownBlock) (.slice Ao16 x283000_1.length co16) x283000_1) ∧ (w'.heap[gb282]? = some (.cells #[.slice Ao16 x283000_1.length co16, .int .i64 x283001_1, .int .i64 x283002_1] 57 (0, 0))) ∧ (w'.heap[s_.2]? = some (.cells #[.slice none 0 0, .int .i64 0, .int .i64 0] 57 (0, 0))) ∧ (w.heap.size ≤ s_.2) ∧ (w.heap.size ≤ s_.2) ∧ (gb282 ≠ s_.2) ∧ (s_.2 ≠ gb282) ∧ (Below w.heap.size w w')) ?_ ?_
            rotate_left
            · intro hCont
              refine two_ (i := 2) (j := 8) (Ni := some 35) (Nj := some 8) #[true, true, true, false, false, false, false, false, false, false, false] #[true, true, false, false, false, false, false, false, true, false, false] rfl rfl rfl rfl (two_of HT_.out (by kernel_rfl)) (by decide) (by decide) (fun K hK => ?_) (fun K hK => ?_)
              · skip
                refine goes_ Try.func41 (by kernel_rfl) rfl #[.int .i64 x7_1] (by rfl) rfl rfl (by (try simp only [List.map_toArray, List.map_cons, List.map_nil]); first | done | rfl | (simp only [List.length_drop, List.length_take]; rfl)) ?_
                with_reducible refine (spec_Decimal.calls k1 x7_1 t284 _ A12.out).mono ?_
                rintro e w18 ⟨rfl, hb⟩
                refine ⟨_, rfl, ?_⟩
                have n0_ := Aside0.mk (Kd.R_below (by (with_reducible repeat (first | apply Kd.R_alloc | apply Kd.R_drewN | apply Kd.R_drew)); exact HO_283000.out) hb)
                have n1_ := Aside0.mk (blk_below (g := gb282) (o := .cells #[.slice Ao16 x283000_1.length co16, .int .i64 x283001_1, .int .i64 x283002_1] 57 (0, 0)) (by (with_reducible repeat (first | refine blk_drewN ?_ _ | refine blk_drew ?_ | refine blk_alloc ?_ _)); exact BK282.out) hb)
                have n2_ := Aside0.mk (below_step (by repeat (first | (with_reducible first | exact HB.out | apply below_alloc | apply pw_below_drewN | apply below_drew1 | refine below_set ?_ GE282.out) | exact HB.out)) hb)
                clear HO_283000
                clear BK282
                clear HB
                have HO_283000 := n0_
                have BK282 := n1_
                have HB := n2_
                clear n0_ n1_ n2_
                (try clear hb)
                (try clear hb2)
                (try clear hk)
                (try clear hi)
                refine hK.out _ _ ⟨(blk_cell BK282.out 0).trans rfl, (blk_cell BK282.out 1).trans rfl, (blk_cell BK282.out 2).trans rfl⟩ (fun hHeld => ?_)
                clear hK K
                refine norm_ (a' := ?_) ?_ ?_
                rotate_left
                · show Act.put _ (some 35) _ = _
                  simp only [Act.put, List.setIfInBounds_toArray, List.set_cons_zero, List.set_cons_succ, i64_w, i32_w]
                  rfl
                refine pure_ (i := 3) (N := some 36) (v := ?_) (a' := ?_) #[true, true, true, true, false, false, false, false, false, false, false] rfl rfl (any_of HT_.out (by kernel_rfl)) (fun _ _ _ h => h) (Or.inl ⟨by rfl, ?_⟩) ?_ ?_
                rotate_left
                · intro w'
                  go_simp
                  with_reducible rfl
                rotate_left
                · simp only [Act.put, List.setIfInBounds_toArray, List.set_cons_zero, List.set_cons_succ, i64_w, i32_w]
                  rfl
                refine two_ (i := 4) (j := 8) (Ni := some 37) (Nj := some 8) #[true, true, true, true, true, false, false, false, false, false, false] #[true, true, true, true, false, false, false, false, true, false, false] rfl rfl rfl rfl (two_of HT_.out (by kernel_rfl)) (by decide) (by decide) (fun K hK => ?_) (fun K hK => ?_)
                · skip
                  refine goes_ Try.func40 (by kernel_rfl) rfl #[.agg #[.slice Ao16 x283000_1.length co16, .int .i64 x283001_1, .int .i64 x283002_1], .string ((⟨#[116, 101, 120, 116]⟩ : ByteArray) ++ t284)] (by rfl) rfl rfl (by (try simp only [List.map_toArray, List.map_cons, List.map_nil]); first | done | rfl | (simp only [List.length_drop, List.length_take]; rfl)) ?_
                  with_reducible refine (impl_PostRing.calls k1 _ _ x283000_1 x283001_1 x283002_1 ((⟨#[116, 101, 120, 116]⟩ : ByteArray) ++ t284) t285 t288 t289 t290 _ ?side1 ?side2 A14.out).mono ?_
                  (case side1 => repeat (first | exact (Kd.R_reads' HO_283000.out).2.2 | (with_reducible refine Kd.C_alloc ?_ _) | (with_reducible refine Kd.C_drewN ?_ _) | (with_reducible refine Kd.C_drew ?_)))
                  (case side2 => exact (Kd.R_reads' HO_283000.out).2.1)
                  rintro e w19 ⟨v286, rfl, ho0, hb⟩
                  refine ⟨_, rfl, ?_⟩
                  have n0_ := Aside0.mk (Kd.R_elder' (by (with_reducible repeat (first | apply Kd.R_alloc | apply Kd.R_drewN | apply Kd.R_drew)); exact HO_283000.out) (Kd.R_base ho0) hb)
                  have n1_ := Aside0.mk (Kd.R_lower (Kd.R_new' ho0 (Kd.R_lt (by (with_reducible repeat (first | apply Kd.R_alloc | apply Kd.R_drewN | apply Kd.R_drew)); exact HO_283000.out))) (below_size (by repeat (first | (with_reducible first | exact HB.out | apply below_alloc | apply pw_below_drewN | apply below_drew1 | refine below_set ?_ GE282.out) | exact HB.out))))
                  have n2_ := Aside0.mk (blk_below (g := gb282) (o := .cells #[.slice Ao16 x283000_1.length co16, .int .i64 x283001_1, .int .i64 x283002_1] 57 (0, 0)) (by (with_reducible repeat (first | refine blk_drewN ?_ _ | refine blk_drew ?_ | refine blk_alloc ?_ _)); exact BK282.out) hb)
                  have n3_ := Aside0.mk (below_step (by repeat (first | (with_reducible first | exact HB.out | apply below_alloc | apply pw_below_drewN | apply below_drew1 | refine below_set ?_ GE282.out) | exact HB.out)) hb)
                  clear HO_283000
                  clear BK282
                  clear HB
                  have HO_283000 := n0_
                  have HO287 := n1_
                  have BK282 := n2_
                  have HB := n3_
                  clear n0_ n1_ n2_ n3_
                  (try clear hb)
                  (try clear hb2)
                  (try clear hk)
                  (try clear hi)
                  (try clear ho0)
                  refine hK.out _ _ ⟨(blk_cell BK282.out 0).trans rfl, (blk_cell BK282.out 1).trans rfl, (blk_cell BK282.out 2).trans rfl⟩ (fun hHeld => ?_)
                  clear hK K
                  refine norm_ (a' := ?_) ?_ ?_
                  rotate_left
                  · show Act.put _ (some 37) _ = _
                    simp only [Act.put, List.setIfInBounds_toArray, List.set_cons_zero, List.set_cons_succ, i64_w, i32_w]
                    rfl
                  refine pure_ (i := 5) (N := some 32) (v := ?_) (a' := ?_) #[true, true, true, true, true, true, false, false, false, false, false] rfl rfl (any_of HT_.out (by kernel_rfl)) (fun _ _ _ h => h) (Or.inl ⟨by rfl, ?_⟩) ?_ ?_
                  rotate_left
                  · intro w'
                    go_simp
                    with_reducible rfl
                  rotate_left
                  · simp only [Act.put, List.setIfInBounds_toArray, List.set_cons_zero, List.set_cons_succ, i64_w, i32_w]
                    rfl
                  refine pure_ (i := 6) (N := some 38) (v := ?_) (a' := ?_) #[true, true, true, true, true, true, true, false, false, false, false] rfl rfl (any_of HT_.out (by kernel_rfl)) (fun _ _ _ h => h) (Or.inl ⟨by rfl, ?_⟩) ?_ ?_
                  rotate_left
                  · intro w'
                    go_simp
                    with_reducible rfl
                  rotate_left
                  · simp only [Act.put, List.setIfInBounds_toArray, List.set_cons_zero, List.set_cons_succ, i64_w, i32_w]
                    rfl
                  refine pure_ (i := 7) (N := some 39) (v := ?_) (a' := ?_) #[true, true, true, true, true, true, true, true, false, false, false] rfl rfl (any_of HT_.out (by kernel_rfl)) (fun _ _ _ h => h) (Or.inl ⟨by rfl, ?_⟩) ?_ ?_
                  rotate_left
                  · intro w'
                    go_simp
                    with_reducible rfl
                  rotate_left
                  · simp only [Act.put, List.setIfInBounds_toArray, List.set_cons_zero, List.set_cons_succ, i64_w, i32_w]
                    rfl
                  refine one_ (i := 8) (N := some 8) #[true, true, true, true, true, true, true, true, true, false, false] rfl rfl (one_of HT_.out (by kernel_rfl)) (by decide) (fun K hK => ?_)
                  refine box_step ?hg (N := 8) ?hd (cs := #[.slice none 0 0, .int .i64 0, .int .i64 0]) (t := 57) ?hr ?_; (case hd => rfl); (case hg => rfl); (case hr => first | (go_simp; done) | (go_simp; rfl))
                  intro gb291 hg w20 hbox hb
                  have n0_ := Aside0.mk (Kd.R_below (by (with_reducible repeat (first | apply Kd.R_alloc | apply Kd.R_drewN | apply Kd.R_drew)); exact HO_283000.out) hb)
                  have n1_ := Aside0.mk (Kd.R_below (by (with_reducible repeat (first | apply Kd.R_alloc | apply Kd.R_drewN | apply Kd.R_drew)); exact HO287.out) hb)
                  have n2_ := Aside0.mk (blk_below (g := gb282) (o := .cells #[.slice Ao16 x283000_1.length co16, .int .i64 x283001_1, .int .i64 x283002_1] 57 (0, 0)) (by (with_reducible repeat (first | refine blk_drewN ?_ _ | refine blk_drew ?_ | refine blk_alloc ?_ _)); exact BK282.out) hb)
                  have n3_ := Aside0.mk (below_step (by repeat (first | (with_reducible first | exact HB.out | apply below_alloc | apply pw_below_drewN | apply below_drew1 | refine below_set ?_ GE282.out) | exact HB.out)) hb)
                  have n4_ := Aside0.mk (hbox)
                  have n5_ := Aside0.mk ((by rw [hg]; exact (below_size (by repeat (first | (with_reducible first | exact HB.out | apply below_alloc | apply pw_below_drewN | apply below_drew1 | refine below_set ?_ GE282.out) | exact HB.out))) : w.heap.size ≤ gb291))
                  have n6_ := Aside0.mk ((by rw [hg]; exact (below_size (by repeat (first | (with_reducible first | exact HB.out | apply below_alloc | apply pw_below_drewN | apply below_drew1 | refine below_set ?_ GE282.out) | exact HB.out))) : w.heap.size ≤ gb291))
                  have n7_ := Aside0.mk ((by rw [hg]; exact Nat.ne_of_lt (blk_lt (g := gb282) (o := .cells #[.slice Ao16 x283000_1.length co16, .int .i64 x283001_1, .int .i64 x283002_1] 57 (0, 0)) (by (with_reducible repeat (first | refine blk_drewN ?_ _ | refine blk_drew ?_ | refine blk_alloc ?_ _)); exact BK282.out)) : gb282 ≠ gb291))
                  have n8_ := Aside0.mk ((by rw [hg]; exact Nat.ne_of_gt (blk_lt (g := gb282) (o := .cells #[.slice Ao16 x283000_1.length co16, .int .i64 x283001_1, .int .i64 x283002_1] 57 (0, 0)) (by (with_reducible repeat (first | refine blk_drewN ?_ _ | refine blk_drew ?_ | refine blk_alloc ?_ _)); exact BK282.out)) : gb291 ≠ gb282))
                  clear HO_283000
                  clear HO287
                  clear BK282
                  clear HB
                  have HO_283000 := n0_
                  have HO287 := n1_
                  have BK282 := n2_
                  have HB := n3_
                  have BK291 := n4_
                  have GW291 := n5_
                  have GE291 := n6_
                  have NB282_291 := n7_
                  have NB291_282 := n8_
                  clear n0_ n1_ n2_ n3_ n4_ n5_ n6_ n7_ n8_
                  clear hb hbox hg
                  refine hK.out _ _ ⟨(blk_cell BK282.out 0).trans rfl, (blk_cell BK282.out 1).trans rfl, (blk_cell BK282.out 2).trans rfl⟩ (fun hHeld => ?_)
                  clear hK K
                  refine norm_ (a' := ?_) ?_ ?_
                  rotate_left
                  · show Act.put _ (some 8) _ = _
                    simp only [Act.put, List.setIfInBounds_toArray, List.set_cons_zero, List.set_cons_succ, i64_w, i32_w]
                    rfl
                  exact norm_ (by simp only [putAll, Act.put, List.setIfInBounds_toArray, List.set_cons_zero, List.set_cons_succ]) (hCont (v286, gb291) _ ⟨hHeld, (by (with_reducible repeat (first | apply Kd.R_alloc | apply Kd.R_drewN | apply Kd.R_drew)); exact Kd.R_mono HO287.out (fun _ hk => hk.2)), (by (with_reducible repeat (first | apply Kd.R_alloc | apply Kd.R_drewN | apply Kd.R_drew)); exact Kd.R_mono HO_283000.out (fun _ hk => hk.2)), (by (with_reducible repeat (first | refine blk_drewN ?_ _ | refine blk_drew ?_ | refine blk_alloc ?_ _)); exact BK282.out), (by (with_reducible repeat (first | refine blk_drewN ?_ _ | refine blk_drew ?_ | refine blk_alloc ?_ _)); exact BK291.out), GW291.out, GE291.out, NB282_291.out, NB291_282.out, (by repeat (first | (with_reducible first | exact HB.out | apply below_alloc | apply pw_below_drewN | apply below_drew1 | refine below_set ?_ GE282.out | refine below_set ?_ GE291.out) | exact HB.out))⟩)
                · skip
                  refine box_step ?hg (N := 8) ?hd (cs := #[.slice none 0 0, .int .i64 0, .int .i64 0]) (t := 57) ?hr ?_; (case hd => rfl); (case hg => rfl); (case hr => first | (go_simp; done) | (go_simp; rfl))
                  intro gb291 hg w19 hbox hb
                  have n0_ := Aside0.mk (Kd.R_below (by (with_reducible repeat (first | apply Kd.R_alloc | apply Kd.R_drewN | apply Kd.R_drew)); exact HO_283000.out) hb)
                  have n1_ := Aside0.mk (blk_below (g := gb282) (o := .cells #[.slice Ao16 x283000_1.length co16, .int .i64 x283001_1, .int .i64 x283002_1] 57 (0, 0)) (by (with_reducible repeat (first | refine blk_drewN ?_ _ | refine blk_drew ?_ | refine blk_alloc ?_ _)); exact BK282.out) hb)
                  have n2_ := Aside0.mk (below_step (by repeat (first | (with_reducible first | exact HB.out | apply below_alloc | apply pw_below_drewN | apply below_drew1 | refine below_set ?_ GE282.out) | exact HB.out)) hb)
                  have n3_ := Aside0.mk (hbox)
                  have n4_ := Aside0.mk ((by rw [hg]; exact (below_size (by repeat (first | (with_reducible first | exact HB.out | apply below_alloc | apply pw_below_drewN | apply below_drew1 | refine below_set ?_ GE282.out) | exact HB.out))) : w.heap.size ≤ gb291))
                  have n5_ := Aside0.mk ((by rw [hg]; exact (below_size (by repeat (first | (with_reducible first | exact HB.out | apply below_alloc | apply pw_below_drewN | apply below_drew1 | refine below_set ?_ GE282.out) | exact HB.out))) : w.heap.size ≤ gb291))
                  have n6_ := Aside0.mk ((by rw [hg]; exact Nat.ne_of_lt (blk_lt (g := gb282) (o := .cells #[.slice Ao16 x283000_1.length co16, .int .i64 x283001_1, .int .i64 x283002_1] 57 (0, 0)) (by (with_reducible repeat (first | refine blk_drewN ?_ _ | refine blk_drew ?_ | refine blk_alloc ?_ _)); exact BK282.out)) : gb282 ≠ gb291))
                  have n7_ := Aside0.mk ((by rw [hg]; exact Nat.ne_of_gt (blk_lt (g := gb282) (o := .cells #[.slice Ao16 x283000_1.length co16, .int .i64 x283001_1, .int .i64 x283002_1] 57 (0, 0)) (by (with_reducible repeat (first | refine blk_drewN ?_ _ | refine blk_drew ?_ | refine blk_alloc ?_ _)); exact BK282.out)) : gb291 ≠ gb282))
                  clear HO_283000
                  clear BK282
                  clear HB
                  have HO_283000 := n0_
                  have BK282 := n1_
                  have HB := n2_
                  have BK291 := n3_
                  have GW291 := n4_
                  have GE291 := n5_
                  have NB282_291 := n6_
                  have NB291_282 := n7_
                  clear n0_ n1_ n2_ n3_ n4_ n5_ n6_ n7_
                  clear hb hbox hg
                  refine hK.out _ _ ⟨(blk_cell BK282.out 0).trans rfl, (blk_cell BK282.out 1).trans rfl, (blk_cell BK282.out 2).trans rfl⟩ (fun hHeld => ?_)
                  clear hK K
                  refine norm_ (a' := ?_) ?_ ?_
                  rotate_left
                  · show Act.put _ (some 8) _ = _
                    simp only [Act.put, List.setIfInBounds_toArray, List.set_cons_zero, List.set_cons_succ, i64_w, i32_w]
                    rfl
                  refine one_ (i := 4) (N := some 37) #[true, true, true, true, true, false, false, false, true, false, false] rfl rfl (one_of HT_.out (by kernel_rfl)) (by decide) (fun K hK => ?_)
                  refine goes_ Try.func40 (by kernel_rfl) rfl #[.agg #[.slice Ao16 x283000_1.length co16, .int .i64 x283001_1, .int .i64 x283002_1], .string ((⟨#[116, 101, 120, 116]⟩ : ByteArray) ++ t284)] (by rfl) rfl rfl (by (try simp only [List.map_toArray, List.map_cons, List.map_nil]); first | done | rfl | (simp only [List.length_drop, List.length_take]; rfl)) ?_
                  with_reducible refine (impl_PostRing.calls k1 _ _ x283000_1 x283001_1 x283002_1 ((⟨#[116, 101, 120, 116]⟩ : ByteArray) ++ t284) t285 t288 t289 t290 _ ?side1 ?side2 A14.out).mono ?_
                  (case side1 => repeat (first | exact (Kd.R_reads' HO_283000.out).2.2 | (with_reducible refine Kd.C_alloc ?_ _) | (with_reducible refine Kd.C_drewN ?_ _) | (with_reducible refine Kd.C_drew ?_)))
                  (case side2 => exact (Kd.R_reads' HO_283000.out).2.1)
                  rintro e w20 ⟨v286, rfl, ho0, hb⟩
                  refine ⟨_, rfl, ?_⟩
                  have n0_ := Aside0.mk (Kd.R_elder' (by (with_reducible repeat (first | apply Kd.R_alloc | apply Kd.R_drewN | apply Kd.R_drew)); exact HO_283000.out) (Kd.R_base ho0) hb)
                  have n1_ := Aside0.mk (Kd.R_lower (Kd.R_new' ho0 (Kd.R_lt (by (with_reducible repeat (first | apply Kd.R_alloc | apply Kd.R_drewN | apply Kd.R_drew)); exact HO_283000.out))) (below_size (by repeat (first | (with_reducible first | exact HB.out | apply below_alloc | apply pw_below_drewN | apply below_drew1 | refine below_set ?_ GE282.out | refine below_set ?_ GE291.out) | exact HB.out))))
                  have n2_ := Aside0.mk (blk_below (g := gb282) (o := .cells #[.slice Ao16 x283000_1.length co16, .int .i64 x283001_1, .int .i64 x283002_1] 57 (0, 0)) (by (with_reducible repeat (first | refine blk_drewN ?_ _ | refine blk_drew ?_ | refine blk_alloc ?_ _)); exact BK282.out) hb)
                  have n3_ := Aside0.mk (blk_below (g := gb291) (o := .cells #[.slice none 0 0, .int .i64 0, .int .i64 0] 57 (0, 0)) (by (with_reducible repeat (first | refine blk_drewN ?_ _ | refine blk_drew ?_ | refine blk_alloc ?_ _)); exact BK291.out) hb)
                  have n4_ := Aside0.mk (below_step (by repeat (first | (with_reducible first | exact HB.out | apply below_alloc | apply pw_below_drewN | apply below_drew1 | refine below_set ?_ GE282.out | refine below_set ?_ GE291.out) | exact HB.out)) hb)
                  clear HO_283000
                  clear BK282
                  clear BK291
                  clear HB
                  have HO_283000 := n0_
                  have HO287 := n1_
                  have BK282 := n2_
                  have BK291 := n3_
                  have HB := n4_
                  clear n0_ n1_ n2_ n3_ n4_
                  (try clear hb)
                  (try clear hb2)
                  (try clear hk)
                  (try clear hi)
                  (try clear ho0)
                  refine hK.out _ _ ⟨(blk_cell BK282.out 0).trans rfl, (blk_cell BK282.out 1).trans rfl, (blk_cell BK282.out 2).trans rfl⟩ (fun hHeld => ?_)
                  clear hK K
                  refine norm_ (a' := ?_) ?_ ?_
                  rotate_left
                  · show Act.put _ (some 37) _ = _
                    simp only [Act.put, List.setIfInBounds_toArray, List.set_cons_zero, List.set_cons_succ, i64_w, i32_w]
                    rfl
                  refine pure_ (i := 5) (N := some 32) (v := ?_) (a' := ?_) #[true, true, true, true, true, true, false, false, true, false, false] rfl rfl (any_of HT_.out (by kernel_rfl)) (fun _ _ _ h => h) (Or.inl ⟨by rfl, ?_⟩) ?_ ?_
                  rotate_left
                  · intro w'
                    go_simp
                    with_reducible rfl
                  rotate_left
                  · simp only [Act.put, List.setIfInBounds_toArray, List.set_cons_zero, List.set_cons_succ, i64_w, i32_w]
                    rfl
                  refine pure_ (i := 6) (N := some 38) (v := ?_) (a' := ?_) #[true, true, true, true, true, true, true, false, true, false, false] rfl rfl (any_of HT_.out (by kernel_rfl)) (fun _ _ _ h => h) (Or.inl ⟨by rfl, ?_⟩) ?_ ?_
                  rotate_left
                  · intro w'
                    go_simp
                    with_reducible rfl
                  rotate_left
                  · simp only [Act.put, List.setIfInBounds_toArray, List.set_cons_zero, List.set_cons_succ, i64_w, i32_w]
                    rfl
                  refine pure_ (i := 7) (N := some 39) (v := ?_) (a' := ?_) #[true, true, true, true, true, true, true, true, true, false, false] rfl rfl (any_of HT_.out (by kernel_rfl)) (fun _ _ _ h => h) (Or.inl ⟨by rfl, ?_⟩) ?_ ?_
                  rotate_left
                  · intro w'
                    go_simp
                    with_reducible rfl
                  rotate_left
                  · simp only [Act.put, List.setIfInBounds_toArray, List.set_cons_zero, List.set_cons_succ, i64_w, i32_w]
                    rfl
                  exact norm_ (by simp only [putAll, Act.put, List.setIfInBounds_toArray, List.set_cons_zero, List.set_cons_succ]) (hCont (v286, gb291) _ ⟨hHeld, (by (with_reducible repeat (first | apply Kd.R_alloc | apply Kd.R_drewN | apply Kd.R_drew)); exact Kd.R_mono HO287.out (fun _ hk => hk.2)), (by (with_reducible repeat (first | apply Kd.R_alloc | apply Kd.R_drewN | apply Kd.R_drew)); exact Kd.R_mono HO_283000.out (fun _ hk => hk.2)), (by (with_reducible repeat (first | refine blk_drewN ?_ _ | refine blk_drew ?_ | refine blk_alloc ?_ _)); exact BK282.out), (by (with_reducible repeat (first | refine blk_drewN ?_ _ | refine blk_drew ?_ | refine blk_alloc ?_ _)); exact BK291.out), GW291.out, GE291.out, NB282_291.out, NB291_282.out, (by repeat (first | (with_reducible first | exact HB.out | apply below_alloc | apply pw_below_drewN | apply below_drew1 | refine below_set ?_ GE282.out | refine below_set ?_ GE291.out) | exact HB.out))⟩)
              · skip
                refine box_step ?hg (N := 8) ?hd (cs := #[.slice none 0 0, .int .i64 0, .int .i64 0]) (t := 57) ?hr ?_; (case hd => rfl); (case hg => rfl); (case hr => first | (go_simp; done) | (go_simp; rfl))
                intro gb291 hg w18 hbox hb
                have n0_ := Aside0.mk (Kd.R_below (by (with_reducible repeat (first | apply Kd.R_alloc | apply Kd.R_drewN | apply Kd.R_drew)); exact HO_283000.out) hb)
                have n1_ := Aside0.mk (blk_below (g := gb282) (o := .cells #[.slice Ao16 x283000_1.length co16, .int .i64 x283001_1, .int .i64 x283002_1] 57 (0, 0)) (by (with_reducible repeat (first | refine blk_drewN ?_ _ | refine blk_drew ?_ | refine blk_alloc ?_ _)); exact BK282.out) hb)
                have n2_ := Aside0.mk (below_step (by repeat (first | (with_reducible first | exact HB.out | apply below_alloc | apply pw_below_drewN | apply below_drew1 | refine below_set ?_ GE282.out) | exact HB.out)) hb)
                have n3_ := Aside0.mk (hbox)
                have n4_ := Aside0.mk ((by rw [hg]; exact (below_size (by repeat (first | (with_reducible first | exact HB.out | apply below_alloc | apply pw_below_drewN | apply below_drew1 | refine below_set ?_ GE282.out) | exact HB.out))) : w.heap.size ≤ gb291))
                have n5_ := Aside0.mk ((by rw [hg]; exact (below_size (by repeat (first | (with_reducible first | exact HB.out | apply below_alloc | apply pw_below_drewN | apply below_drew1 | refine below_set ?_ GE282.out) | exact HB.out))) : w.heap.size ≤ gb291))
                have n6_ := Aside0.mk ((by rw [hg]; exact Nat.ne_of_lt (blk_lt (g := gb282) (o := .cells #[.slice Ao16 x283000_1.length co16, .int .i64 x283001_1, .int .i64 x283002_1] 57 (0, 0)) (by (with_reducible repeat (first | refine blk_drewN ?_ _ | refine blk_drew ?_ | refine blk_alloc ?_ _)); exact BK282.out)) : gb282 ≠ gb291))
                have n7_ := Aside0.mk ((by rw [hg]; exact Nat.ne_of_gt (blk_lt (g := gb282) (o := .cells #[.slice Ao16 x283000_1.length co16, .int .i64 x283001_1, .int .i64 x283002_1] 57 (0, 0)) (by (with_reducible repeat (first | refine blk_drewN ?_ _ | refine blk_drew ?_ | refine blk_alloc ?_ _)); exact BK282.out)) : gb291 ≠ gb282))
                clear HO_283000
                clear BK282
                clear HB
                have HO_283000 := n0_
                have BK282 := n1_
                have HB := n2_
                have BK291 := n3_
                have GW291 := n4_
                have GE291 := n5_
                have NB282_291 := n6_
                have NB291_282 := n7_
                clear n0_ n1_ n2_ n3_ n4_ n5_ n6_ n7_
                clear hb hbox hg
                refine hK.out _ _ ⟨(blk_cell BK282.out 0).trans rfl, (blk_cell BK282.out 1).trans rfl, (blk_cell BK282.out 2).trans rfl⟩ (fun hHeld => ?_)
                clear hK K
                refine norm_ (a' := ?_) ?_ ?_
                rotate_left
                · show Act.put _ (some 8) _ = _
                  simp only [Act.put, List.setIfInBounds_toArray, List.set_cons_zero, List.set_cons_succ, i64_w, i32_w]
                  rfl
                refine one_ (i := 2) (N := some 35) #[true, true, true, false, false, false, false, false, true, false, false] rfl rfl (one_of HT_.out (by kernel_rfl)) (by decide) (fun K hK => ?_)
                refine goes_ Try.func41 (by kernel_rfl) rfl #[.int .i64 x7_1] (by rfl) rfl rfl (by (try simp only [List.map_toArray, List.map_cons, List.map_nil]); first | done | rfl | (simp only [List.length_drop, List.length_take]; rfl)) ?_
                with_reducible refine (spec_Decimal.calls k1 x7_1 t284 _ A12.out).mono ?_
                rintro e w19 ⟨rfl, hb⟩
                refine ⟨_, rfl, ?_⟩
                have n0_ := Aside0.mk (Kd.R_below (by (with_reducible repeat (first | apply Kd.R_alloc | apply Kd.R_drewN | apply Kd.R_drew)); exact HO_283000.out) hb)
                have n1_ := Aside0.mk (blk_below (g := gb282) (o := .cells #[.slice Ao16 x283000_1.length co16, .int .i64 x283001_1, .int .i64 x283002_1] 57 (0, 0)) (by (with_reducible repeat (first | refine blk_drewN ?_ _ | refine blk_drew ?_ | refine blk_alloc ?_ _)); exact BK282.out) hb)
                have n2_ := Aside0.mk (blk_below (g := gb291) (o := .cells #[.slice none 0 0, .int .i64 0, .int .i64 0] 57 (0, 0)) (by (with_reducible repeat (first | refine blk_drewN ?_ _ | refine blk_drew ?_ | refine blk_alloc ?_ _)); exact BK291.out) hb)
                have n3_ := Aside0.mk (below_step (by repeat (first | (with_reducible first | exact HB.out | apply below_alloc | apply pw_below_drewN | apply below_drew1 | refine below_set ?_ GE282.out | refine below_set ?_ GE291.out) | exact HB.out)) hb)
                clear HO_283000
                clear BK282
                clear BK291
                clear HB
                have HO_283000 := n0_
                have BK282 := n1_
                have BK291 := n2_
                have HB := n3_
                clear n0_ n1_ n2_ n3_
                (try clear hb)
                (try clear hb2)
                (try clear hk)
                (try clear hi)
                refine hK.out _ _ ⟨(blk_cell BK282.out 0).trans rfl, (blk_cell BK282.out 1).trans rfl, (blk_cell BK282.out 2).trans rfl⟩ (fun hHeld => ?_)
                clear hK K
                refine norm_ (a' := ?_) ?_ ?_
                rotate_left
                · show Act.put _ (some 35) _ = _
                  simp only [Act.put, List.setIfInBounds_toArray, List.set_cons_zero, List.set_cons_succ, i64_w, i32_w]
                  rfl
                refine pure_ (i := 3) (N := some 36) (v := ?_) (a' := ?_) #[true, true, true, true, false, false, false, false, true, false, false] rfl rfl (any_of HT_.out (by kernel_rfl)) (fun _ _ _ h => h) (Or.inl ⟨by rfl, ?_⟩) ?_ ?_
                rotate_left
                · intro w'
                  go_simp
                  with_reducible rfl
                rotate_left
                · simp only [Act.put, List.setIfInBounds_toArray, List.set_cons_zero, List.set_cons_succ, i64_w, i32_w]
                  rfl
                refine one_ (i := 4) (N := some 37) #[true, true, true, true, true, false, false, false, true, false, false] rfl rfl (one_of HT_.out (by kernel_rfl)) (by decide) (fun K hK => ?_)
                refine goes_ Try.func40 (by kernel_rfl) rfl #[.agg #[.slice Ao16 x283000_1.length co16, .int .i64 x283001_1, .int .i64 x283002_1], .string ((⟨#[116, 101, 120, 116]⟩ : ByteArray) ++ t284)] (by rfl) rfl rfl (by (try simp only [List.map_toArray, List.map_cons, List.map_nil]); first | done | rfl | (simp only [List.length_drop, List.length_take]; rfl)) ?_
                with_reducible refine (impl_PostRing.calls k1 _ _ x283000_1 x283001_1 x283002_1 ((⟨#[116, 101, 120, 116]⟩ : ByteArray) ++ t284) t285 t288 t289 t290 _ ?side1 ?side2 A14.out).mono ?_
                (case side1 => repeat (first | exact (Kd.R_reads' HO_283000.out).2.2 | (with_reducible refine Kd.C_alloc ?_ _) | (with_reducible refine Kd.C_drewN ?_ _) | (with_reducible refine Kd.C_drew ?_)))
                (case side2 => exact (Kd.R_reads' HO_283000.out).2.1)
                rintro e w20 ⟨v286, rfl, ho0, hb⟩
                refine ⟨_, rfl, ?_⟩
                have n0_ := Aside0.mk (Kd.R_elder' (by (with_reducible repeat (first | apply Kd.R_alloc | apply Kd.R_drewN | apply Kd.R_drew)); exact HO_283000.out) (Kd.R_base ho0) hb)
                have n1_ := Aside0.mk (Kd.R_lower (Kd.R_new' ho0 (Kd.R_lt (by (with_reducible repeat (first | apply Kd.R_alloc | apply Kd.R_drewN | apply Kd.R_drew)); exact HO_283000.out))) (below_size (by repeat (first | (with_reducible first | exact HB.out | apply below_alloc | apply pw_below_drewN | apply below_drew1 | refine below_set ?_ GE282.out | refine below_set ?_ GE291.out) | exact HB.out))))
                have n2_ := Aside0.mk (blk_below (g := gb282) (o := .cells #[.slice Ao16 x283000_1.length co16, .int .i64 x283001_1, .int .i64 x283002_1] 57 (0, 0)) (by (with_reducible repeat (first | refine blk_drewN ?_ _ | refine blk_drew ?_ | refine blk_alloc ?_ _)); exact BK282.out) hb)
                have n3_ := Aside0.mk (blk_below (g := gb291) (o := .cells #[.slice none 0 0, .int .i64 0, .int .i64 0] 57 (0, 0)) (by (with_reducible repeat (first | refine blk_drewN ?_ _ | refine blk_drew ?_ | refine blk_alloc ?_ _)); exact BK291.out) hb)
                have n4_ := Aside0.mk (below_step (by repeat (first | (with_reducible first | exact HB.out | apply below_alloc | apply pw_below_drewN | apply below_drew1 | refine below_set ?_ GE282.out | refine below_set ?_ GE291.out) | exact HB.out)) hb)
                clear HO_283000
                clear BK282
                clear BK291
                clear HB
                have HO_283000 := n0_
                have HO287 := n1_
                have BK282 := n2_
                have BK291 := n3_
                have HB := n4_
                clear n0_ n1_ n2_ n3_ n4_
                (try clear hb)
                (try clear hb2)
                (try clear hk)
                (try clear hi)
                (try clear ho0)
                refine hK.out _ _ ⟨(blk_cell BK282.out 0).trans rfl, (blk_cell BK282.out 1).trans rfl, (blk_cell BK282.out 2).trans rfl⟩ (fun hHeld => ?_)
                clear hK K
                refine norm_ (a' := ?_) ?_ ?_
                rotate_left
                · show Act.put _ (some 37) _ = _
                  simp only [Act.put, List.setIfInBounds_toArray, List.set_cons_zero, List.set_cons_succ, i64_w, i32_w]
                  rfl
                refine pure_ (i := 5) (N := some 32) (v := ?_) (a' := ?_) #[true, true, true, true, true, true, false, false, true, false, false] rfl rfl (any_of HT_.out (by kernel_rfl)) (fun _ _ _ h => h) (Or.inl ⟨by rfl, ?_⟩) ?_ ?_
                rotate_left
                · intro w'
                  go_simp
                  with_reducible rfl
                rotate_left
                · simp only [Act.put, List.setIfInBounds_toArray, List.set_cons_zero, List.set_cons_succ, i64_w, i32_w]
                  rfl
                refine pure_ (i := 6) (N := some 38) (v := ?_) (a' := ?_) #[true, true, true, true, true, true, true, false, true, false, false] rfl rfl (any_of HT_.out (by kernel_rfl)) (fun _ _ _ h => h) (Or.inl ⟨by rfl, ?_⟩) ?_ ?_
                rotate_left
                · intro w'
                  go_simp
                  with_reducible rfl
                rotate_left
                · simp only [Act.put, List.setIfInBounds_toArray, List.set_cons_zero, List.set_cons_succ, i64_w, i32_w]
                  rfl
                refine pure_ (i := 7) (N := some 39) (v := ?_) (a' := ?_) #[true, true, true, true, true, true, true, true, true, false, false] rfl rfl (any_of HT_.out (by kernel_rfl)) (fun _ _ _ h => h) (Or.inl ⟨by rfl, ?_⟩) ?_ ?_
                rotate_left
                · intro w'
                  go_simp
                  with_reducible rfl
                rotate_left
                · simp only [Act.put, List.setIfInBounds_toArray, List.set_cons_zero, List.set_cons_succ, i64_w, i32_w]
                  rfl
                exact norm_ (by simp only [putAll, Act.put, List.setIfInBounds_toArray, List.set_cons_zero, List.set_cons_succ]) (hCont (v286, gb291) _ ⟨hHeld, (by (with_reducible repeat (first | apply Kd.R_alloc | apply Kd.R_drewN | apply Kd.R_drew)); exact Kd.R_mono HO287.out (fun _ hk => hk.2)), (by (with_reducible repeat (first | apply Kd.R_alloc | apply Kd.R_drewN | apply Kd.R_drew)); exact Kd.R_mono HO_283000.out (fun _ hk => hk.2)), (by (with_reducible repeat (first | refine blk_drewN ?_ _ | refine blk_drew ?_ | refine blk_alloc ?_ _)); exact BK282.out), (by (with_reducible repeat (first | refine blk_drewN ?_ _ | refine blk_drew ?_ | refine blk_alloc ?_ _)); exact BK291.out), GW291.out, GE291.out, NB282_291.out, NB291_282.out, (by repeat (first | (with_reducible first | exact HB.out | apply below_alloc | apply pw_below_drewN | apply below_drew1 | refine below_set ?_ GE282.out | refine below_set ?_ GE291.out) | exact HB.out))⟩)
            rintro ⟨v286, gb291⟩ w21 ⟨hS_, h0_, h1_, h2_, h3_, h4_, h5_, h6_, h7_, h8_⟩
            have n0_ : Aside0 (Kd.R k138 138 w21 w.heap.size (fun k_ => some k_ ≠ (.slice Ao16 x283000_1.length co16 : Value).ownBlock) v286 t285) := ⟨h0_⟩
            have n1_ : Aside0 (Kd.R k138 138 w21 w.heap.size (fun k_ => some k_ ≠ (v286 : Value).ownBlock) (.slice Ao16 x283000_1.length co16) x283000_1) := ⟨h1_⟩
            have n2_ : Aside0 (w21.heap[gb282]? = some (.cells #[.slice Ao16 x283000_1.length co16, .int .i64 x283001_1, .int .i64 x283002_1] 57 (0, 0))) := ⟨h2_⟩
            have n3_ : Aside0 (w21.heap[gb291]? = some (.cells #[.slice none 0 0, .int .i64 0, .int .i64 0] 57 (0, 0))) := ⟨h3_⟩
            have n4_ : Aside0 (w.heap.size ≤ gb291) := ⟨h4_⟩
            have n5_ : Aside0 (w.heap.size ≤ gb291) := ⟨h5_⟩
            have n6_ : Aside0 (gb282 ≠ gb291) := ⟨h6_⟩
            have n7_ : Aside0 (gb291 ≠ gb282) := ⟨h7_⟩
            have n8_ : Aside0 (Below w.heap.size w w21) := ⟨h8_⟩
            clear HO_283000
            clear BK282
            clear HB
            clear h0_ h1_ h2_ h3_ h4_ h5_ h6_ h7_ h8_
            have HO287 := n0_
            have HO_283000 := n1_
            have BK282 := n2_
            have BK291 := n3_
            have GW291 := n4_
            have GE291 := n5_
            have NB282_291 := n6_
            have NB291_282 := n7_
            have HB := n8_
            clear n0_ n1_ n2_ n3_ n4_ n5_ n6_ n7_ n8_
            have hHeld : w21.cell? ⟨gb282, 0, none⟩ = some (.slice Ao16 x283000_1.length co16) ∧ w21.cell? ⟨gb282, 1, none⟩ = some (.int .i64 x283001_1) ∧ w21.cell? ⟨gb282, 2, none⟩ = some (.int .i64 x283002_1) := hS_
            obtain ⟨Ao22, co22, eo22⟩ := Kd.R_slice HO287.out
            (first | subst eo22 | (injection eo22 with f1_ f2_ f3_; have f4_ := f1_.symm; have f5_ := f3_.symm; clear f1_ f2_ f3_; subst f4_; subst f5_))
            refine norm_ (a' := ?_) ?_ ?_
            rotate_left
            · simp only [putAll, Act.put, List.setIfInBounds_toArray, List.set_cons_zero, List.set_cons_succ]
              rfl
            refine one_ (i := 9) (N := none) #[true, true, true, true, true, true, true, true, true, true, false] rfl rfl (one_of HT_.out (by kernel_rfl)) (by decide) (fun K hK => ?_)
            have hs23 : w21.cell? ⟨gb291, 0, none⟩ = some (.slice none 0 0) := (blk_cell BK291.out 0).trans rfl
            have hfs23 := blk_frozen BK291.out 0
            have hns23_0 := NB282_291.out
            have hms23_0 := NB291_282.out
            have hs24 : w21.cell? ⟨gb291, 1, none⟩ = some (.int .i64 0) := (blk_cell BK291.out 1).trans rfl
            have hfs24 := blk_frozen BK291.out 1
            have hns24_0 := NB282_291.out
            have hms24_0 := NB291_282.out
            have hs25 : w21.cell? ⟨gb291, 2, none⟩ = some (.int .i64 0) := (blk_cell BK291.out 2).trans rfl
            have hfs25 := blk_frozen BK291.out 2
            have hns25_0 := NB282_291.out
            have hms25_0 := NB291_282.out
            refine skip_ (w1 := ?_) (by rfl) rfl ?_ ?_
            rotate_left
            · go_simp
              rfl
            refine hK.out _ _ ⟨((cell_far (p := ⟨gb291, _, none⟩) NB282_291.out _).trans (((cell_far (p := ⟨gb291, _, none⟩) NB282_291.out _).trans (((cell_far (p := ⟨gb291, _, none⟩) NB282_291.out _).trans (hHeld.1)))))), ((cell_far (p := ⟨gb291, _, none⟩) NB282_291.out _).trans (((cell_far (p := ⟨gb291, _, none⟩) NB282_291.out _).trans (((cell_far (p := ⟨gb291, _, none⟩) NB282_291.out _).trans (hHeld.2.1)))))), ((cell_far (p := ⟨gb291, _, none⟩) NB282_291.out _).trans (((cell_far (p := ⟨gb291, _, none⟩) NB282_291.out _).trans (((cell_far (p := ⟨gb291, _, none⟩) NB282_291.out _).trans (hHeld.2.2))))))⟩ (fun hHeld => ?_)
            clear hK K
            refine pure_ (i := 10) (N := some 9) (v := ?_) (a' := ?_) #[true, true, true, true, true, true, true, true, true, true, true] rfl rfl (any_of HT_.out (by kernel_rfl)) (fun _ _ _ h => h) (Or.inl ⟨by rfl, ?_⟩) ?_ ?_
            rotate_left
            · intro w'
              go_simp
              with_reducible rfl
            rotate_left
            · simp only [Act.put, List.setIfInBounds_toArray, List.set_cons_zero, List.set_cons_succ, i64_w, i32_w]
              rfl
            refine done_ (done_of HT_.out (by kernel_rfl)) ?_
            go_upto_region 11 with (fail)
            go_cut [51] (fun v51 wc => ∃ (kq : Nat) (x51_14 : Bool), v51 = .bool x51_14 ∧ Aside0 (laws_FnRings.j1 kq (t277.length : Int) t283 x6_1 x7_1 t290 x51_14 t285 t288 t289 = some r) ∧ Aside0 (kq ≤ k1) ∧ Aside0 (Kd.R k138 138 wc w.heap.size (fun k_ => some k_ ≠ ((.slice Ao22 t285.length co22) : Value).ownBlock) (.slice Ao16 x283000_1.length co16) x283000_1) ∧ Aside0 (Kd.R k138 138 wc w.heap.size (fun k_ => some k_ ≠ ((.slice Ao16 x283000_1.length co16) : Value).ownBlock) (.slice Ao22 t285.length co22) t285) ∧ Aside0 (wc.heap[gb282]? = some (.cells #[(.slice Ao16 x283000_1.length co16), .int .i64 x283001_1, .int .i64 x283002_1] 57 (0, 0))) ∧ Aside0 (wc.heap[gb291]? = some (.cells #[(.slice Ao22 t285.length co22), .int .i64 t288, .int .i64 t289] 57 (0, 0))) ∧ Aside0 (Below w.heap.size w wc))
            case first =>
              have H := HC15.out
              clear HC15
              by_cases c26 : (t290 != (decide ((wrap64 (t283 + x6_1)) < (t277.length : Int)))) = true
              · rw [if_pos c26] at H
                have c26b0 : (t290 != (decide ((wrap64 (t283 + x6_1)) < (t277.length : Int)))) = true := c26
                (try (have c26b1 : decide (t290 = (decide ((wrap64 (t283 + x6_1)) < (t277.length : Int)))) = false := by simpa using c26))
                (try (have c26b2 : (t290 == (decide ((wrap64 (t283 + x6_1)) < (t277.length : Int)))) = false := by simpa using c26))
                (try (have c26b3 : ¬ (t290 = (decide ((wrap64 (t283 + x6_1)) < (t277.length : Int)))) := by simpa using c26))
                clear c26
                (first | rw [c26b0] | (simp only [i64_w, i32_w]; rw [c26b0]) | skip)
                have H' := Aside0.mk H
                clear H
                go_wp2
                go_meet
                case rel => exact ⟨_, (true), (by first | rfl | (simp; done) | (simp [*]; done)), H', ⟨by have := HK1.out; first | omega | exact Nat.le_refl _⟩, ⟨by (with_reducible repeat (first | apply Kd.R_alloc | apply Kd.R_drewN | apply Kd.R_drew)); exact Kd.R_mono (Kd.R_far (p := ⟨gb291, 2, none⟩) (Kd.R_far (p := ⟨gb291, 1, none⟩) (Kd.R_far (p := ⟨gb291, 0, none⟩) (Kd.R_types HO_283000.out BK291.out (by decide)) (fun _ hk => hk.2) (.slice Ao22 t285.length co22)) (fun _ hk => hk.2) (.int .i64 t288)) (fun _ hk => hk.2) (.int .i64 t289)) (fun _ hk => hk.1)⟩, ⟨by (with_reducible repeat (first | apply Kd.R_alloc | apply Kd.R_drewN | apply Kd.R_drew)); exact Kd.R_mono (Kd.R_far (p := ⟨gb291, 2, none⟩) (Kd.R_far (p := ⟨gb291, 1, none⟩) (Kd.R_far (p := ⟨gb291, 0, none⟩) (Kd.R_types HO287.out BK291.out (by decide)) (fun _ hk => hk.2) (.slice Ao22 t285.length co22)) (fun _ hk => hk.2) (.int .i64 t288)) (fun _ hk => hk.2) (.int .i64 t289)) (fun _ hk => hk.1)⟩, ⟨by (with_reducible repeat (first | refine blk_drewN ?_ _ | refine blk_drew ?_ | refine blk_alloc ?_ _)); refine blk_far ?_ NB282_291.out _; (with_reducible repeat (first | refine blk_drewN ?_ _ | refine blk_drew ?_ | refine blk_alloc ?_ _)); refine blk_far ?_ NB282_291.out _; (with_reducible repeat (first | refine blk_drewN ?_ _ | refine blk_drew ?_ | refine blk_alloc ?_ _)); refine blk_far ?_ NB282_291.out _; (with_reducible repeat (first | refine blk_drewN ?_ _ | refine blk_drew ?_ | refine blk_alloc ?_ _)); exact BK282.out⟩, ⟨by (with_reducible repeat (first | refine blk_drewN ?_ _ | refine blk_drew ?_ | refine blk_alloc ?_ _)); refine blk_put (cs := #[.slice Ao22 t285.length co22, .int .i64 t288, .int .i64 0]) ?_ 2 _ rfl; (with_reducible repeat (first | refine blk_drewN ?_ _ | refine blk_drew ?_ | refine blk_alloc ?_ _)); refine blk_put (cs := #[.slice Ao22 t285.length co22, .int .i64 0, .int .i64 0]) ?_ 1 _ rfl; (with_reducible repeat (first | refine blk_drewN ?_ _ | refine blk_drew ?_ | refine blk_alloc ?_ _)); refine blk_put (cs := #[.slice none 0 0, .int .i64 0, .int .i64 0]) ?_ 0 _ rfl; (with_reducible repeat (first | refine blk_drewN ?_ _ | refine blk_drew ?_ | refine blk_alloc ?_ _)); exact BK291.out⟩, ⟨by repeat (first | (with_reducible first | exact HB.out | apply below_alloc | apply pw_below_drewN | apply below_drew1 | refine below_set ?_ GE282.out | refine below_set ?_ GE291.out) | exact HB.out)⟩⟩
              · rw [if_neg c26] at H
                have c26b0 : (t290 != (decide ((wrap64 (t283 + x6_1)) < (t277.length : Int)))) = false := by simpa using c26
                (try (have c26b1 : decide (t290 = (decide ((wrap64 (t283 + x6_1)) < (t277.length : Int)))) = true := by simpa using c26))
                (try (have c26b2 : (t290 == (decide ((wrap64 (t283 + x6_1)) < (t277.length : Int)))) = true := by simpa using c26))
                clear c26
                (first | rw [c26b0] | (simp only [i64_w, i32_w]; rw [c26b0]) | skip)
                replace H := Option.bind_eq_some_iff.mp H
                obtain ⟨t292, A270, H⟩ := H
                replace H : (laws_FnRings.j1 k1 (t277.length : Int) t283 x6_1 x7_1 t290 (!t292) t285 t288 t289) = some r := H
                have A27 := Aside0.mk A270
                clear A270
                have H' := Aside0.mk H
                clear H
                have hnb28 := NB291_282.out
                have hnc28 := NB282_291.out
                have hcz29_0 : w21.cell? ⟨gb291, 0, none⟩ = some (.slice none 0 0) := (blk_cell BK291.out 0).trans rfl
                have hcz29_1 : w21.cell? ⟨gb291, 1, none⟩ = some (.int .i64 0) := (blk_cell BK291.out 1).trans rfl
                have hcz29_2 : w21.cell? ⟨gb291, 2, none⟩ = some (.int .i64 0) := (blk_cell BK291.out 2).trans rfl
                have hfz29_0 := blk_frozen BK291.out 0
                have hfz29_1 := blk_frozen BK291.out 1
                have hfz29_2 := blk_frozen BK291.out 2
                go_wp2_with (first | (go_at_call 42; (with_reducible refine (impl_RingOk.calls k1 _ _ t285 t288 t289 t292 _ ?side1 ?side2 A27.out).mono ?_); (case side1 => refine (Kd.R_reads' (e := 138) (base := w.heap.size) (ok := fun k_ => some k_ ≠ (.slice Ao16 x283000_1.length co16 : Value).ownBlock) (n := t285.length) (c := co22) ?_).2.2; exact (by (with_reducible repeat (first | apply Kd.R_alloc | apply Kd.R_drewN | apply Kd.R_drew)); exact (Kd.R_mono (Kd.R_far (p := ⟨gb291, 2, none⟩) (Kd.R_far (p := ⟨gb291, 1, none⟩) (Kd.R_far (p := ⟨gb291, 0, none⟩) (Kd.R_types HO287.out BK291.out (by decide)) (fun _ hk => hk.2) (.slice Ao22 t285.length co22)) (fun _ hk => hk.2) (.int .i64 t288)) (fun _ hk => hk.2) (.int .i64 t289)) (fun _ h_ => h_.1)))); (case side2 => exact (Kd.R_reads' HO287.out).2.1); rintro e w30 ⟨rfl, hb⟩; have n0_ := Aside0.mk (Kd.R_below (by (with_reducible repeat (first | apply Kd.R_alloc | apply Kd.R_drewN | apply Kd.R_drew)); exact (Kd.R_mono (Kd.R_far (p := ⟨gb291, 2, none⟩) (Kd.R_far (p := ⟨gb291, 1, none⟩) (Kd.R_far (p := ⟨gb291, 0, none⟩) (Kd.R_types HO_283000.out BK291.out (by decide)) (fun _ hk => hk.2) (.slice Ao22 t285.length co22)) (fun _ hk => hk.2) (.int .i64 t288)) (fun _ hk => hk.2) (.int .i64 t289)) (fun _ h_ => h_.1))) hb); have n1_ := Aside0.mk (Kd.R_below (by (with_reducible repeat (first | apply Kd.R_alloc | apply Kd.R_drewN | apply Kd.R_drew)); exact (Kd.R_mono (Kd.R_far (p := ⟨gb291, 2, none⟩) (Kd.R_far (p := ⟨gb291, 1, none⟩) (Kd.R_far (p := ⟨gb291, 0, none⟩) (Kd.R_types HO287.out BK291.out (by decide)) (fun _ hk => hk.2) (.slice Ao22 t285.length co22)) (fun _ hk => hk.2) (.int .i64 t288)) (fun _ hk => hk.2) (.int .i64 t289)) (fun _ h_ => h_.1))) hb); have n2_ := Aside0.mk (blk_below (g := gb282) (o := .cells #[.slice Ao16 x283000_1.length co16, .int .i64 x283001_1, .int .i64 x283002_1] 57 (0, 0)) (by (with_reducible repeat (first | refine blk_drewN ?_ _ | refine blk_drew ?_ | refine blk_alloc ?_ _)); refine blk_far ?_ NB282_291.out _; (with_reducible repeat (first | refine blk_drewN ?_ _ | refine blk_drew ?_ | refine blk_alloc ?_ _)); refine blk_far ?_ NB282_291.out _; (with_reducible repeat (first | refine blk_drewN ?_ _ | refine blk_drew ?_ | refine blk_alloc ?_ _)); refine blk_far ?_ NB282_291.out _; (with_reducible repeat (first | refine blk_drewN ?_ _ | refine blk_drew ?_ | refine blk_alloc ?_ _)); exact BK282.out) hb); have n3_ := Aside0.mk (blk_below (g := gb291) (o := .cells #[.slice Ao22 t285.length co22, .int .i64 t288, .int .i64 t289] 57 (0, 0)) (by (with_reducible repeat (first | refine blk_drewN ?_ _ | refine blk_drew ?_ | refine blk_alloc ?_ _)); refine blk_put (cs := #[.slice Ao22 t285.length co22, .int .i64 t288, .int .i64 0]) ?_ 2 _ rfl; (with_reducible repeat (first | refine blk_drewN ?_ _ | refine blk_drew ?_ | refine blk_alloc ?_ _)); refine blk_put (cs := #[.slice Ao22 t285.length co22, .int .i64 0, .int .i64 0]) ?_ 1 _ rfl; (with_reducible repeat (first | refine blk_drewN ?_ _ | refine blk_drew ?_ | refine blk_alloc ?_ _)); refine blk_put (cs := #[.slice none 0 0, .int .i64 0, .int .i64 0]) ?_ 0 _ rfl; (with_reducible repeat (first | refine blk_drewN ?_ _ | refine blk_drew ?_ | refine blk_alloc ?_ _)); exact BK291.out) hb); have n4_ := Aside0.mk (below_step (by repeat (first | (with_reducible first | exact HB.out | apply below_alloc | apply pw_below_drewN | apply below_drew1 | refine below_set ?_ GE282.out | refine below_set ?_ GE291.out) | exact HB.out)) hb); clear HO_283000; clear HO287; clear BK282; clear BK291; clear HB; have HO_283000 := n0_; have HO287 := n1_; have BK282 := n2_; have BK291 := n3_; have HB := n4_; clear n0_ n1_ n2_ n3_ n4_; (try clear hb); (try clear hb2); (try clear hk); (try clear hi)))
                go_meet
                case rel => exact ⟨_, (!t292), (by first | rfl | (simp; done) | (simp [*]; done)), H', ⟨by have := HK1.out; first | omega | exact Nat.le_refl _⟩, ⟨by (with_reducible repeat (first | apply Kd.R_alloc | apply Kd.R_drewN | apply Kd.R_drew)); exact HO_283000.out⟩, ⟨by (with_reducible repeat (first | apply Kd.R_alloc | apply Kd.R_drewN | apply Kd.R_drew)); exact HO287.out⟩, ⟨by (with_reducible repeat (first | refine blk_drewN ?_ _ | refine blk_drew ?_ | refine blk_alloc ?_ _)); exact BK282.out⟩, ⟨by (with_reducible repeat (first | refine blk_drewN ?_ _ | refine blk_drew ?_ | refine blk_alloc ?_ _)); exact BK291.out⟩, ⟨by repeat (first | (with_reducible first | exact HB.out | apply below_alloc | apply pw_below_drewN | apply below_drew1 | refine below_set ?_ GE282.out | refine below_set ?_ GE291.out) | exact HB.out)⟩⟩
            case rest =>
              clear HC15
              try clear c1
              try clear c2
              try clear p2
              try clear c3
              try clear c4
              try clear p6
              try clear c7
              try clear c11
              try clear c11b0
              try clear c11b1
              try clear c13
              try clear c13b0
              try clear c13b1
              try clear c13b2
              try clear c15
              try clear c26
              try clear c26b0
              try clear c26b1
              try clear c26b2
              try clear c28
              try clear hcz29_0
              try clear hcz29_1
              try clear hcz29_2
              try clear hcz9_0
              try clear hcz9_1
              try clear hcz9_2
              try clear hfz29_0
              try clear hfz29_1
              try clear hfz29_2
              try clear hfz9_0
              try clear hfz9_1
              try clear hfz9_2
              try clear p2
              obtain ⟨kq, x51_14, rfl, HA, HJ14, HO_283000, HO_292000, BK282, BK291, HB⟩ := hcut
              cases kq with
              | zero => exact absurd HA.out (by simp [laws_FnRings.j1])
              | succ kj14 =>
                have H := HA.out
                clear HA
                simp only [laws_FnRings.j1] at H
                by_cases c31 : x51_14 = true
                · subst c31
                  have H1 : (some false) = some r := by rw [if_pos rfl] at H; exact H
                  clear H
                  have H := H1
                  clear H1
                  exact absurd ((Option.some.inj H).trans HLT.out) (by decide)
                · replace c31 := Bool.eq_false_iff.mpr c31
                  subst c31
                  have H1 : (if t290 = true then (laws_FnRings.l0 kj14 (t277.length : Int) t283 (wrap64 (x6_1 + 1)) (wrap64 (x7_1 + 1)) t285 t288 t289) else (laws_FnRings.l0 kj14 (t277.length : Int) t283 x6_1 (wrap64 (x7_1 + 1)) t285 t288 t289)) = some r := by rw [if_neg (show ¬ (false = true) by decide)] at H; exact H
                  clear H
                  have H := H1
                  clear H1
                  by_cases c32 : t290 = true
                  · subst c32
                    have H1 : (laws_FnRings.l0 kj14 (t277.length : Int) t283 (wrap64 (x6_1 + 1)) (wrap64 (x7_1 + 1)) t285 t288 t289) = some r := by rw [if_pos rfl] at H; exact H
                    clear H
                    have H := H1
                    clear H1
                    have H' := Aside0.mk H
                    clear H
                    have hnb33 := NB291_282.out
                    have hnc33 := NB282_291.out
                    have hcz34_0 : wc.cell? ⟨gb291, 0, none⟩ = some (.slice Ao22 t285.length co22) := (blk_cell BK291.out 0).trans rfl
                    have hcz34_1 : wc.cell? ⟨gb291, 1, none⟩ = some (.int .i64 t288) := (blk_cell BK291.out 1).trans rfl
                    have hcz34_2 : wc.cell? ⟨gb291, 2, none⟩ = some (.int .i64 t289) := (blk_cell BK291.out 2).trans rfl
                    have hfz34_0 := blk_frozen BK291.out 0
                    have hfz34_1 := blk_frozen BK291.out 1
                    have hfz34_2 := blk_frozen BK291.out 2
                    have hcz35_0 : wc.cell? ⟨gb282, 0, none⟩ = some (.slice Ao16 x283000_1.length co16) := (blk_cell BK282.out 0).trans rfl
                    have hcz35_1 : wc.cell? ⟨gb282, 1, none⟩ = some (.int .i64 x283001_1) := (blk_cell BK282.out 1).trans rfl
                    have hcz35_2 : wc.cell? ⟨gb282, 2, none⟩ = some (.int .i64 x283002_1) := (blk_cell BK282.out 2).trans rfl
                    have hfz35_0 := blk_frozen BK282.out 0
                    have hfz35_1 := blk_frozen BK282.out 1
                    have hfz35_2 := blk_frozen BK282.out 2
                    go_wp2
                    go_roundg kj14
                    case measure => have := HK1.out; have := HJ14.out; omega
                    case rel => exact ⟨(wrap64 (x6_1 + 1)), (wrap64 (x7_1 + 1)), (t285), (t288), (t289), (.slice Ao22 t285.length co22), (by first | rfl | (simp; done) | (simp [*]; done)), (by first | rfl | (simp; done) | (simp [*]; done)), H', ⟨by have := HK1.out; have := HJ14.out; omega⟩, ⟨by (with_reducible repeat (first | apply Kd.R_alloc | apply Kd.R_drewN | apply Kd.R_drew)); exact Kd.R_mono (Kd.R_far (p := ⟨gb282, 2, none⟩) (Kd.R_far (p := ⟨gb282, 1, none⟩) (Kd.R_far (p := ⟨gb282, 0, none⟩) (Kd.R_types HO_292000.out BK282.out (by decide)) (fun _ hk => hk.2) (.slice Ao22 t285.length co22)) (fun _ hk => hk.2) (.int .i64 t288)) (fun _ hk => hk.2) (.int .i64 t289)) (fun _ hk => trivial)⟩, ⟨by (with_reducible repeat (first | refine blk_drewN ?_ _ | refine blk_drew ?_ | refine blk_alloc ?_ _)); refine blk_put (cs := #[.slice Ao22 t285.length co22, .int .i64 t288, .int .i64 x283002_1]) ?_ 2 _ rfl; (with_reducible repeat (first | refine blk_drewN ?_ _ | refine blk_drew ?_ | refine blk_alloc ?_ _)); refine blk_put (cs := #[.slice Ao22 t285.length co22, .int .i64 x283001_1, .int .i64 x283002_1]) ?_ 1 _ rfl; (with_reducible repeat (first | refine blk_drewN ?_ _ | refine blk_drew ?_ | refine blk_alloc ?_ _)); refine blk_put (cs := #[.slice Ao16 x283000_1.length co16, .int .i64 x283001_1, .int .i64 x283002_1]) ?_ 0 _ rfl; (with_reducible repeat (first | refine blk_drewN ?_ _ | refine blk_drew ?_ | refine blk_alloc ?_ _)); exact BK282.out⟩, ⟨by repeat (first | (with_reducible first | exact HB.out | apply below_alloc | apply pw_below_drewN | apply below_drew1 | refine below_set ?_ GE282.out | refine below_set ?_ GE291.out) | exact HB.out)⟩⟩
                  · replace c32 := Bool.eq_false_iff.mpr c32
                    subst c32
                    have H1 : (laws_FnRings.l0 kj14 (t277.length : Int) t283 x6_1 (wrap64 (x7_1 + 1)) t285 t288 t289) = some r := by rw [if_neg (show ¬ (false = true) by decide)] at H; exact H
                    clear H
                    have H := H1
                    clear H1
                    have H' := Aside0.mk H
                    clear H
                    have hnb36 := NB291_282.out
                    have hnc36 := NB282_291.out
                    have hcz37_0 : wc.cell? ⟨gb291, 0, none⟩ = some (.slice Ao22 t285.length co22) := (blk_cell BK291.out 0).trans rfl
                    have hcz37_1 : wc.cell? ⟨gb291, 1, none⟩ = some (.int .i64 t288) := (blk_cell BK291.out 1).trans rfl
                    have hcz37_2 : wc.cell? ⟨gb291, 2, none⟩ = some (.int .i64 t289) := (blk_cell BK291.out 2).trans rfl
                    have hfz37_0 := blk_frozen BK291.out 0
                    have hfz37_1 := blk_frozen BK291.out 1
                    have hfz37_2 := blk_frozen BK291.out 2
                    have hcz38_0 : wc.cell? ⟨gb282, 0, none⟩ = some (.slice Ao16 x283000_1.length co16) := (blk_cell BK282.out 0).trans rfl
                    have hcz38_1 : wc.cell? ⟨gb282, 1, none⟩ = some (.int .i64 x283001_1) := (blk_cell BK282.out 1).trans rfl
                    have hcz38_2 : wc.cell? ⟨gb282, 2, none⟩ = some (.int .i64 x283002_1) := (blk_cell BK282.out 2).trans rfl
                    have hfz38_0 := blk_frozen BK282.out 0
                    have hfz38_1 := blk_frozen BK282.out 1
                    have hfz38_2 := blk_frozen BK282.out 2
                    go_wp2
                    go_roundg kj14
                    case measure => have := HK1.out; have := HJ14.out; omega
                    case rel => exact ⟨(x6_1), (wrap64 (x7_1 + 1)), (t285), (t288), (t289), (.slice Ao22 t285.length co22), (by first | rfl | (simp; done) | (simp [*]; done)), (by first | rfl | (simp; done) | (simp [*]; done)), H', ⟨by have := HK1.out; have := HJ14.out; omega⟩, ⟨by (with_reducible repeat (first | apply Kd.R_alloc | apply Kd.R_drewN | apply Kd.R_drew)); exact Kd.R_mono (Kd.R_far (p := ⟨gb282, 2, none⟩) (Kd.R_far (p := ⟨gb282, 1, none⟩) (Kd.R_far (p := ⟨gb282, 0, none⟩) (Kd.R_types HO_292000.out BK282.out (by decide)) (fun _ hk => hk.2) (.slice Ao22 t285.length co22)) (fun _ hk => hk.2) (.int .i64 t288)) (fun _ hk => hk.2) (.int .i64 t289)) (fun _ hk => trivial)⟩, ⟨by (with_reducible repeat (first | refine blk_drewN ?_ _ | refine blk_drew ?_ | refine blk_alloc ?_ _)); refine blk_put (cs := #[.slice Ao22 t285.length co22, .int .i64 t288, .int .i64 x283002_1]) ?_ 2 _ rfl; (with_reducible repeat (first | refine blk_drewN ?_ _ | refine blk_drew ?_ | refine blk_alloc ?_ _)); refine blk_put (cs := #[.slice Ao22 t285.length co22, .int .i64 x283001_1, .int .i64 x283002_1]) ?_ 1 _ rfl; (with_reducible repeat (first | refine blk_drewN ?_ _ | refine blk_drew ?_ | refine blk_alloc ?_ _)); refine blk_put (cs := #[.slice Ao16 x283000_1.length co16, .int .i64 x283001_1, .int .i64 x283002_1]) ?_ 0 _ rfl; (with_reducible repeat (first | refine blk_drewN ?_ _ | refine blk_drew ?_ | refine blk_alloc ?_ _)); exact BK282.out⟩, ⟨by repeat (first | (with_reducible first | exact HB.out | apply below_alloc | apply pw_below_drewN | apply below_drew1 | refine below_set ?_ GE282.out | refine below_set ?_ GE291.out) | exact HB.out)⟩⟩
          · rw [if_neg c13] at H
            exact absurd H (by simp)
        · rw [if_neg c11] at H
          have c11b0 : decide (x7_1 < (wrap64 ((t277.length : Int) + 1))) = false := decide_eq_false c11
          have c11b1 : decide ((wrap64 ((t277.length : Int) + 1)) ≤ x7_1) = true := decide_eq_true (by omega)
          clear c11
          have HC39 := Aside0.mk H
          clear H
          go_upto_region 16 with (fail)
          go_cut [66] (fun v66 wc => ∃ (kq : Nat) (x66_38 : Bool), v66 = .bool x66_38 ∧ Aside0 (laws_FnRings.j2 kq (t277.length : Int) t283 x66_38 x283000_1 x283001_1 x283002_1 = some r) ∧ Aside0 (kq ≤ k1) ∧ Aside0 (Kd.R k138 138 wc w.heap.size (fun _ => True) u283000 x283000_1) ∧ Aside0 (wc.heap[gb282]? = some (.cells #[u283000, .int .i64 x283001_1, .int .i64 x283002_1] 57 (0, 0))) ∧ Aside0 (Below w.heap.size w wc))
          case first =>
            have H := HC39.out
            clear HC39
            replace H := Option.bind_eq_some_iff.mp H
            obtain ⟨t293, A400, H⟩ := H
            replace H : (if t293 = (t277.length : Int) then (laws_FnRings.j2 k1 (t277.length : Int) t283 (x6_1 != (wrap64 ((t277.length : Int) - t283))) x283000_1 x283001_1 x283002_1) else (laws_FnRings.j2 k1 (t277.length : Int) t283 true x283000_1 x283001_1 x283002_1)) = some r := H
            have A40 := Aside0.mk A400
            clear A400
            by_cases c41 : t293 = (t277.length : Int)
            · rw [if_pos c41] at H
              have c41b0 : (t293 == (t277.length : Int)) = true := beq_iff_eq.mpr c41
              have c41b1 : (t293 != (t277.length : Int)) = false := bne_eq_false_iff_eq.mpr c41
              clear c41
              (first | rw [c41b0] | (simp only [i64_w, i32_w]; rw [c41b0]) | skip)
              have H' := Aside0.mk H
              clear H
              have hcz42_0 : wr.cell? ⟨gb282, 0, none⟩ = some (u283000) := (blk_cell BK282.out 0).trans rfl
              have hcz42_1 : wr.cell? ⟨gb282, 1, none⟩ = some (.int .i64 x283001_1) := (blk_cell BK282.out 1).trans rfl
              have hcz42_2 : wr.cell? ⟨gb282, 2, none⟩ = some (.int .i64 x283002_1) := (blk_cell BK282.out 2).trans rfl
              have hfz42_0 := blk_frozen BK282.out 0
              have hfz42_1 := blk_frozen BK282.out 1
              have hfz42_2 := blk_frozen BK282.out 2
              obtain ⟨Ao43, co43, eo43⟩ := Kd.R_slice HO_283000.out
              subst eo43
              go_wp2_with (first | ((with_reducible refine gate_callee (f := 39) rfl ?_); refine goesL_ (some 57) rfl rfl Try.func39 (by kernel_rfl) rfl #[.agg #[.slice Ao43 x283000_1.length co43, .int .i64 x283001_1, .int .i64 x283002_1]] rfl (by (try simp only [List.map_toArray, List.map_cons, List.map_nil]); first | done | rfl | (simp only [List.length_drop, List.length_take]; rfl)) ?_; (with_reducible refine (impl_HeldBy.calls k1 _ _ x283000_1 x283001_1 x283002_1 t293 _ ?side1 ?side2 A40.out).mono ?_); (case side1 => repeat (first | exact (Kd.R_reads' HO_283000.out).2.2 | (with_reducible refine Kd.C_alloc ?_ _) | (with_reducible refine Kd.C_drewN ?_ _) | (with_reducible refine Kd.C_drew ?_))); (case side2 => exact (Kd.R_reads' HO_283000.out).2.1); rintro e w44 ⟨rfl, hb⟩; refine ⟨_, rfl, ?_⟩; have n0_ := Aside0.mk (Kd.R_below (by (with_reducible repeat (first | apply Kd.R_alloc | apply Kd.R_drewN | apply Kd.R_drew)); exact HO_283000.out) hb); have n1_ := Aside0.mk (blk_below (g := gb282) (o := .cells #[.slice Ao43 x283000_1.length co43, .int .i64 x283001_1, .int .i64 x283002_1] 57 (0, 0)) (by (with_reducible repeat (first | refine blk_drewN ?_ _ | refine blk_drew ?_ | refine blk_alloc ?_ _)); exact BK282.out) hb); have n2_ := Aside0.mk (below_step (by repeat (first | (with_reducible first | exact HB.out | apply below_alloc | apply pw_below_drewN | apply below_drew1 | refine below_set ?_ GE282.out) | exact HB.out)) hb); clear HO_283000; clear BK282; clear HB; have HO_283000 := n0_; have BK282 := n1_; have HB := n2_; clear n0_ n1_ n2_; (try clear hb); (try clear hb2); (try clear hk); (try clear hi)))
              go_meet
              case rel => exact ⟨_, ((x6_1 != (wrap64 ((t277.length : Int) - t283)))), (by first | rfl | (simp; done) | (simp [*]; done)), H', ⟨by have := HK1.out; first | omega | exact Nat.le_refl _⟩, ⟨by (with_reducible repeat (first | apply Kd.R_alloc | apply Kd.R_drewN | apply Kd.R_drew)); exact HO_283000.out⟩, ⟨by (with_reducible repeat (first | refine blk_drewN ?_ _ | refine blk_drew ?_ | refine blk_alloc ?_ _)); exact BK282.out⟩, ⟨by repeat (first | (with_reducible first | exact HB.out | apply below_alloc | apply pw_below_drewN | apply below_drew1 | refine below_set ?_ GE282.out) | exact HB.out)⟩⟩
            · rw [if_neg c41] at H
              have c41b0 : (t293 == (t277.length : Int)) = false := beq_eq_false_iff_ne.mpr c41
              have c41b1 : (t293 != (t277.length : Int)) = true := bne_iff_ne.mpr c41
              (first | rw [c41b0] | (simp only [i64_w, i32_w]; rw [c41b0]) | skip)
              have H' := Aside0.mk H
              clear H
              have hcz45_0 : wr.cell? ⟨gb282, 0, none⟩ = some (u283000) := (blk_cell BK282.out 0).trans rfl
              have hcz45_1 : wr.cell? ⟨gb282, 1, none⟩ = some (.int .i64 x283001_1) := (blk_cell BK282.out 1).trans rfl
              have hcz45_2 : wr.cell? ⟨gb282, 2, none⟩ = some (.int .i64 x283002_1) := (blk_cell BK282.out 2).trans rfl
              have hfz45_0 := blk_frozen BK282.out 0
              have hfz45_1 := blk_frozen BK282.out 1
              have hfz45_2 := blk_frozen BK282.out 2
              obtain ⟨Ao46, co46, eo46⟩ := Kd.R_slice HO_283000.out
              subst eo46
              go_wp2_with (first | ((with_reducible refine gate_callee (f := 39) rfl ?_); refine goesL_ (some 57) rfl rfl Try.func39 (by kernel_rfl) rfl #[.agg #[.slice Ao46 x283000_1.length co46, .int .i64 x283001_1, .int .i64 x283002_1]] rfl (by (try simp only [List.map_toArray, List.map_cons, List.map_nil]); first | done | rfl | (simp only [List.length_drop, List.length_take]; rfl)) ?_; (with_reducible refine (impl_HeldBy.calls k1 _ _ x283000_1 x283001_1 x283002_1 t293 _ ?side1 ?side2 A40.out).mono ?_); (case side1 => repeat (first | exact (Kd.R_reads' HO_283000.out).2.2 | (with_reducible refine Kd.C_alloc ?_ _) | (with_reducible refine Kd.C_drewN ?_ _) | (with_reducible refine Kd.C_drew ?_))); (case side2 => exact (Kd.R_reads' HO_283000.out).2.1); rintro e w47 ⟨rfl, hb⟩; refine ⟨_, rfl, ?_⟩; have n0_ := Aside0.mk (Kd.R_below (by (with_reducible repeat (first | apply Kd.R_alloc | apply Kd.R_drewN | apply Kd.R_drew)); exact HO_283000.out) hb); have n1_ := Aside0.mk (blk_below (g := gb282) (o := .cells #[.slice Ao46 x283000_1.length co46, .int .i64 x283001_1, .int .i64 x283002_1] 57 (0, 0)) (by (with_reducible repeat (first | refine blk_drewN ?_ _ | refine blk_drew ?_ | refine blk_alloc ?_ _)); exact BK282.out) hb); have n2_ := Aside0.mk (below_step (by repeat (first | (with_reducible first | exact HB.out | apply below_alloc | apply pw_below_drewN | apply below_drew1 | refine below_set ?_ GE282.out) | exact HB.out)) hb); clear HO_283000; clear BK282; clear HB; have HO_283000 := n0_; have BK282 := n1_; have HB := n2_; clear n0_ n1_ n2_; (try clear hb); (try clear hb2); (try clear hk); (try clear hi)))
              go_meet
              case rel => exact ⟨_, (true), (by first | rfl | (simp; done) | (simp [*]; done)), H', ⟨by have := HK1.out; first | omega | exact Nat.le_refl _⟩, ⟨by (with_reducible repeat (first | apply Kd.R_alloc | apply Kd.R_drewN | apply Kd.R_drew)); exact HO_283000.out⟩, ⟨by (with_reducible repeat (first | refine blk_drewN ?_ _ | refine blk_drew ?_ | refine blk_alloc ?_ _)); exact BK282.out⟩, ⟨by repeat (first | (with_reducible first | exact HB.out | apply below_alloc | apply pw_below_drewN | apply below_drew1 | refine below_set ?_ GE282.out) | exact HB.out)⟩⟩
          case rest =>
            clear HC39
            try clear c1
            try clear c2
            try clear p2
            try clear c3
            try clear c4
            try clear p6
            try clear c7
            try clear c11
            try clear c11b0
            try clear c11b1
            try clear c13
            try clear c13b0
            try clear c13b1
            try clear c13b2
            try clear c15
            try clear c26
            try clear c26b0
            try clear c26b1
            try clear c26b2
            try clear c28
            try clear c31
            try clear c32
            try clear c33
            try clear c36
            try clear c39
            try clear c40
            try clear c41
            try clear c41b0
            try clear c41b1
            try clear hcz29_0
            try clear hcz29_1
            try clear hcz29_2
            try clear hcz34_0
            try clear hcz34_1
            try clear hcz34_2
            try clear hcz35_0
            try clear hcz35_1
            try clear hcz35_2
            try clear hcz37_0
            try clear hcz37_1
            try clear hcz37_2
            try clear hcz38_0
            try clear hcz38_1
            try clear hcz38_2
            try clear hcz42_0
            try clear hcz42_1
            try clear hcz42_2
            try clear hcz45_0
            try clear hcz45_1
            try clear hcz45_2
            try clear hcz9_0
            try clear hcz9_1
            try clear hcz9_2
            try clear hfz29_0
            try clear hfz29_1
            try clear hfz29_2
            try clear hfz34_0
            try clear hfz34_1
            try clear hfz34_2
            try clear hfz35_0
            try clear hfz35_1
            try clear hfz35_2
            try clear hfz37_0
            try clear hfz37_1
            try clear hfz37_2
            try clear hfz38_0
            try clear hfz38_1
            try clear hfz38_2
            try clear hfz42_0
            try clear hfz42_1
            try clear hfz42_2
            try clear hfz45_0
            try clear hfz45_1
            try clear hfz45_2
            try clear hfz9_0
            try clear hfz9_1
            try clear hfz9_2
            try clear p2
            try clear p6
            obtain ⟨kq, x66_38, rfl, HA, HJ38, HO_283000, BK282, HB⟩ := hcut
            cases kq with
            | zero => exact absurd HA.out (by simp [laws_FnRings.j2])
            | succ kj38 =>
              have H := HA.out
              clear HA
              simp only [laws_FnRings.j2] at H
              by_cases c48 : x66_38 = true
              · subst c48
                have H1 : (some false) = some r := by rw [if_pos rfl] at H; exact H
                clear H
                have H := H1
                clear H1
                exact absurd ((Option.some.inj H).trans HLT.out) (by decide)
              · replace c48 := Bool.eq_false_iff.mpr c48
                subst c48
                have H1 : (laws_FnRings.l1 kj38 (t277.length : Int) t283 0 x283000_1 x283001_1 x283002_1) = some r := by rw [if_neg (show ¬ (false = true) by decide)] at H; exact H
                clear H
                have H := H1
                clear H1
                have H' := Aside0.mk H
                clear H
                go_wp2
                go_loopg [10] kj38 (fun kq v10 w' => ∃ (x10_3 : Int) (x283000_3 : List (S138)) (x283001_3 : Int) (x283002_3 : Int) (u283000 : Value), v10 = .int .i64 x10_3 ∧ Aside0 (laws_FnRings.l1 kq (t277.length : Int) t283 x10_3 x283000_3 x283001_3 x283002_3 = some r) ∧ Aside0 (kq ≤ kj38) ∧ Aside0 (Kd.R k138 138 w' w.heap.size (fun _ => True) u283000 x283000_3) ∧ Aside0 (w'.heap[gb282]? = some (.cells #[u283000, .int .i64 x283001_3, .int .i64 x283002_3] 57 (0, 0))) ∧ Aside0 (Below w.heap.size w w'))
                case atStart => exact ⟨(0), (x283000_1), (x283001_1), (x283002_1), (u283000), (by first | rfl | (simp; done) | (simp [*]; done)), H', ⟨Nat.le_refl _⟩, ⟨by (with_reducible repeat (first | apply Kd.R_alloc | apply Kd.R_drewN | apply Kd.R_drew)); exact HO_283000.out⟩, ⟨by (with_reducible repeat (first | refine blk_drewN ?_ _ | refine blk_drew ?_ | refine blk_alloc ?_ _)); exact BK282.out⟩, ⟨by repeat (first | (with_reducible first | exact HB.out | apply below_alloc | apply pw_below_drewN | apply below_drew1 | refine below_set ?_ GE282.out) | exact HB.out)⟩⟩
                case round =>
                  clear H'
                  try clear c1
                  try clear c2
                  try clear p2
                  try clear c3
                  try clear c4
                  try clear p6
                  try clear c7
                  try clear c11
                  try clear c11b0
                  try clear c11b1
                  try clear c13
                  try clear c13b0
                  try clear c13b1
                  try clear c13b2
                  try clear c15
                  try clear c26
                  try clear c26b0
                  try clear c26b1
                  try clear c26b2
                  try clear c28
                  try clear c31
                  try clear c32
                  try clear c33
                  try clear c36
                  try clear c39
                  try clear c40
                  try clear c41
                  try clear c41b0
                  try clear c41b1
                  try clear c48
                  try clear hcz29_0
                  try clear hcz29_1
                  try clear hcz29_2
                  try clear hcz34_0
                  try clear hcz34_1
                  try clear hcz34_2
                  try clear hcz35_0
                  try clear hcz35_1
                  try clear hcz35_2
                  try clear hcz37_0
                  try clear hcz37_1
                  try clear hcz37_2
                  try clear hcz38_0
                  try clear hcz38_1
                  try clear hcz38_2
                  try clear hcz42_0
                  try clear hcz42_1
                  try clear hcz42_2
                  try clear hcz45_0
                  try clear hcz45_1
                  try clear hcz45_2
                  try clear hcz9_0
                  try clear hcz9_1
                  try clear hcz9_2
                  try clear hfz29_0
                  try clear hfz29_1
                  try clear hfz29_2
                  try clear hfz34_0
                  try clear hfz34_1
                  try clear hfz34_2
                  try clear hfz35_0
                  try clear hfz35_1
                  try clear hfz35_2
                  try clear hfz37_0
                  try clear hfz37_1
                  try clear hfz37_2
                  try clear hfz38_0
                  try clear hfz38_1
                  try clear hfz38_2
                  try clear hfz42_0
                  try clear hfz42_1
                  try clear hfz42_2
                  try clear hfz45_0
                  try clear hfz45_1
                  try clear hfz45_2
                  try clear hfz9_0
                  try clear hfz9_1
                  try clear hfz9_2
                  try clear p2
                  try clear p6
                  obtain ⟨x10_3, x283000_3, x283001_3, x283002_3, u283000, rfl, HA, HK3, HO_283000, BK282, HB⟩ := hrel
                  cases gk with
                  | zero => exact absurd HA.out (by simp [laws_FnRings.l1])
                  | succ k3 =>
                    have H := HA.out
                    clear HA
                    simp only [laws_FnRings.l1] at H
                    by_cases c49 : x10_3 < (t277.length : Int)
                    · rw [if_pos c49] at H
                      have c49b0 : decide (x10_3 < (t277.length : Int)) = true := decide_eq_true c49
                      have c49b1 : decide ((t277.length : Int) ≤ x10_3) = false := decide_eq_false (by omega)
                      clear c49
                      replace H := Option.bind_eq_some_iff.mp H
                      obtain ⟨⟨t304, t307, t308, t309, t310⟩, A500, H⟩ := H
                      replace H : (if t310 = true then (if x10_3 ≥ t283 then ((spec_Decimal.f k3 (wrap64 (x10_3 - t283))).bind fun t312 => (if 4 + t312.size ≤ 9223372036854775807 then (if t309.toList = ((⟨#[116, 101, 120, 116]⟩ : ByteArray) ++ t312).toList then ((impl_HeldBy.f k3 t304 t307 t308).bind fun t313 => (if t313 = (wrap64 ((wrap64 ((t277.length : Int) - x10_3)) - 1)) then (laws_FnRings.l1 k3 (t277.length : Int) t283 (wrap64 (x10_3 + 1)) t304 t307 t308) else (some false))) else (some false)) else (none))) else ((impl_HeldBy.f k3 t304 t307 t308).bind fun t314 => (if t314 = (wrap64 ((wrap64 ((t277.length : Int) - x10_3)) - 1)) then (laws_FnRings.l1 k3 (t277.length : Int) t283 (wrap64 (x10_3 + 1)) t304 t307 t308) else (some false)))) else (some false)) = some r := H
                      have A50 := Aside0.mk A500
                      clear A500
                      by_cases c51 : t310 = true
                      · subst c51
                        have H1 : (if x10_3 ≥ t283 then ((spec_Decimal.f k3 (wrap64 (x10_3 - t283))).bind fun t312 => (if 4 + t312.size ≤ 9223372036854775807 then (if t309.toList = ((⟨#[116, 101, 120, 116]⟩ : ByteArray) ++ t312).toList then ((impl_HeldBy.f k3 t304 t307 t308).bind fun t313 => (if t313 = (wrap64 ((wrap64 ((t277.length : Int) - x10_3)) - 1)) then (laws_FnRings.l1 k3 (t277.length : Int) t283 (wrap64 (x10_3 + 1)) t304 t307 t308) else (some false))) else (some false)) else (none))) else ((impl_HeldBy.f k3 t304 t307 t308).bind fun t314 => (if t314 = (wrap64 ((wrap64 ((t277.length : Int) - x10_3)) - 1)) then (laws_FnRings.l1 k3 (t277.length : Int) t283 (wrap64 (x10_3 + 1)) t304 t307 t308) else (some false)))) = some r := by rw [if_pos rfl] at H; exact H
                        clear H
                        have H := H1
                        clear H1
                        by_cases c52 : x10_3 ≥ t283
                        · rw [if_pos c52] at H
                          have c52b0 : decide (t283 ≤ x10_3) = true := decide_eq_true c52
                          have c52b1 : decide (x10_3 < t283) = false := decide_eq_false (by omega)
                          clear c52
                          replace H := Option.bind_eq_some_iff.mp H
                          obtain ⟨t312, A530, H⟩ := H
                          replace H : (if 4 + t312.size ≤ 9223372036854775807 then (if t309.toList = ((⟨#[116, 101, 120, 116]⟩ : ByteArray) ++ t312).toList then ((impl_HeldBy.f k3 t304 t307 t308).bind fun t313 => (if t313 = (wrap64 ((wrap64 ((t277.length : Int) - x10_3)) - 1)) then (laws_FnRings.l1 k3 (t277.length : Int) t283 (wrap64 (x10_3 + 1)) t304 t307 t308) else (some false))) else (some false)) else (none)) = some r := H
                          have A53 := Aside0.mk A530
                          clear A530
                          by_cases c54 : 4 + t312.size ≤ 9223372036854775807
                          · rw [if_pos c54] at H
                            have c54b0 := eq_true c54
                            have c54b1 : decide (4 + t312.size ≤ 9223372036854775807) = true := decide_eq_true c54
                            try have c54b2 : (9223372036854775807 < 4 + t312.size) = False := eq_false (Nat.not_lt.2 c54)
                            by_cases c55 : t309.toList = ((⟨#[116, 101, 120, 116]⟩ : ByteArray) ++ t312).toList
                            · rw [if_pos c55] at H
                              have c55b0 : (t309.toList == ((⟨#[116, 101, 120, 116]⟩ : ByteArray) ++ t312).toList) = true := beq_iff_eq.mpr c55
                              have c55b1 : (t309.toList != ((⟨#[116, 101, 120, 116]⟩ : ByteArray) ++ t312).toList) = false := bne_eq_false_iff_eq.mpr c55
                              clear c55
                              replace H := Option.bind_eq_some_iff.mp H
                              obtain ⟨t313, A560, H⟩ := H
                              replace H : (if t313 = (wrap64 ((wrap64 ((t277.length : Int) - x10_3)) - 1)) then (laws_FnRings.l1 k3 (t277.length : Int) t283 (wrap64 (x10_3 + 1)) t304 t307 t308) else (some false)) = some r := H
                              have A56 := Aside0.mk A560
                              clear A560
                              by_cases c57 : t313 = (wrap64 ((wrap64 ((t277.length : Int) - x10_3)) - 1))
                              · rw [if_pos c57] at H
                                have c57b0 : (t313 == (wrap64 ((wrap64 ((t277.length : Int) - x10_3)) - 1))) = true := beq_iff_eq.mpr c57
                                have c57b1 : (t313 != (wrap64 ((wrap64 ((t277.length : Int) - x10_3)) - 1))) = false := bne_eq_false_iff_eq.mpr c57
                                clear c57
                                have H' := Aside0.mk H
                                clear H
                                have hcz58_0 : wr.cell? ⟨gb282, 0, none⟩ = some (u283000) := (blk_cell BK282.out 0).trans rfl
                                have hcz58_1 : wr.cell? ⟨gb282, 1, none⟩ = some (.int .i64 x283001_3) := (blk_cell BK282.out 1).trans rfl
                                have hcz58_2 : wr.cell? ⟨gb282, 2, none⟩ = some (.int .i64 x283002_3) := (blk_cell BK282.out 2).trans rfl
                                have hfz58_0 := blk_frozen BK282.out 0
                                have hfz58_1 := blk_frozen BK282.out 1
                                have hfz58_2 := blk_frozen BK282.out 2
                                obtain ⟨Ao59, co59, eo59⟩ := Kd.R_slice HO_283000.out
                                subst eo59
                                go_wp2_with (first | ((with_reducible refine gate_callee (f := 43) rfl ?_); refine goesL_ (some 74) rfl rfl Try.func43 (by kernel_rfl) rfl #[.agg #[.slice Ao59 x283000_3.length co59, .int .i64 x283001_3, .int .i64 x283002_3]] rfl (by (try simp only [List.map_toArray, List.map_cons, List.map_nil]); first | done | rfl | (simp only [List.length_drop, List.length_take]; rfl)) ?_; (with_reducible refine (impl_TakeRing.calls k3 _ _ x283000_3 x283001_3 x283002_3 t304 t307 t308 t309 true _ ?side1 ?side2 A50.out).mono ?_); (case side1 => repeat (first | exact (Kd.R_reads' HO_283000.out).2.2 | (with_reducible refine Kd.C_alloc ?_ _) | (with_reducible refine Kd.C_drewN ?_ _) | (with_reducible refine Kd.C_drew ?_))); (case side2 => exact (Kd.R_reads' HO_283000.out).2.1); rintro e w60 ⟨v305, rfl, ho0, hb⟩; refine ⟨_, rfl, ?_⟩; have n0_ := Aside0.mk (Kd.R_elder' (by (with_reducible repeat (first | apply Kd.R_alloc | apply Kd.R_drewN | apply Kd.R_drew)); exact HO_283000.out) (Kd.R_base ho0) hb); have n1_ := Aside0.mk (Kd.R_lower (Kd.R_new' ho0 (Kd.R_lt (by (with_reducible repeat (first | apply Kd.R_alloc | apply Kd.R_drewN | apply Kd.R_drew)); exact HO_283000.out))) (below_size (by repeat (first | (with_reducible first | exact HB.out | apply below_alloc | apply pw_below_drewN | apply below_drew1 | refine below_set ?_ GE282.out) | exact HB.out)))); have n2_ := Aside0.mk (blk_below (g := gb282) (o := .cells #[.slice Ao59 x283000_3.length co59, .int .i64 x283001_3, .int .i64 x283002_3] 57 (0, 0)) (by (with_reducible repeat (first | refine blk_drewN ?_ _ | refine blk_drew ?_ | refine blk_alloc ?_ _)); exact BK282.out) hb); have n3_ := Aside0.mk (below_step (by repeat (first | (with_reducible first | exact HB.out | apply below_alloc | apply pw_below_drewN | apply below_drew1 | refine below_set ?_ GE282.out) | exact HB.out)) hb); clear HO_283000; clear BK282; clear HB; have HO_283000 := n0_; have HO306 := n1_; have BK282 := n2_; have HB := n3_; clear n0_ n1_ n2_ n3_; (try clear hb); (try clear hb2); (try clear hk); (try clear hi); (try clear ho0)) | ((with_reducible refine gate_dst (N := 11) rfl ?_); refine box_event ?hg (N := 11) ?hd (cs := #[.slice none 0 0, .int .i64 0, .int .i64 0]) (t := 57) ?hr ?_; (case hd => rfl); (case hg => rfl); (case hr => first | (go_simp; done) | (go_simp; rfl)); intro gb311 hg w61 hbox hb; have n0_ := Aside0.mk (Kd.R_below (by (with_reducible repeat (first | apply Kd.R_alloc | apply Kd.R_drewN | apply Kd.R_drew)); exact HO_283000.out) hb); have n1_ := Aside0.mk (Kd.R_below (by (with_reducible repeat (first | apply Kd.R_alloc | apply Kd.R_drewN | apply Kd.R_drew)); exact HO306.out) hb); have n2_ := Aside0.mk (blk_below (g := gb282) (o := .cells #[.slice Ao59 x283000_3.length co59, .int .i64 x283001_3, .int .i64 x283002_3] 57 (0, 0)) (by (with_reducible repeat (first | refine blk_drewN ?_ _ | refine blk_drew ?_ | refine blk_alloc ?_ _)); exact BK282.out) hb); have n3_ := Aside0.mk (below_step (by repeat (first | (with_reducible first | exact HB.out | apply below_alloc | apply pw_below_drewN | apply below_drew1 | refine below_set ?_ GE282.out) | exact HB.out)) hb); have n4_ := Aside0.mk (hbox); have n5_ := Aside0.mk ((by rw [hg]; exact (below_size (by repeat (first | (with_reducible first | exact HB.out | apply below_alloc | apply pw_below_drewN | apply below_drew1 | refine below_set ?_ GE282.out) | exact HB.out))) : w.heap.size ≤ gb311)); have n6_ := Aside0.mk ((by rw [hg]; exact (below_size (by repeat (first | (with_reducible first | exact HB.out | apply below_alloc | apply pw_below_drewN | apply below_drew1 | refine below_set ?_ GE282.out) | exact HB.out))) : w.heap.size ≤ gb311)); have n7_ := Aside0.mk ((by rw [hg]; exact Nat.ne_of_lt (blk_lt (g := gb282) (o := .cells #[.slice Ao59 x283000_3.length co59, .int .i64 x283001_3, .int .i64 x283002_3] 57 (0, 0)) (by (with_reducible repeat (first | refine blk_drewN ?_ _ | refine blk_drew ?_ | refine blk_alloc ?_ _)); exact BK282.out)) : gb282 ≠ gb311)); have n8_ := Aside0.mk ((by rw [hg]; exact Nat.ne_of_gt (blk_lt (g := gb282) (o := .cells #[.slice Ao59 x283000_3.length co59, .int .i64 x283001_3, .int .i64 x283002_3] 57 (0, 0)) (by (with_reducible repeat (first | refine blk_drewN ?_ _ | refine blk_drew ?_ | refine blk_alloc ?_ _)); exact BK282.out)) : gb311 ≠ gb282)); clear HO_283000; clear HO306; clear BK282; clear HB; have HO_283000 := n0_; have HO306 := n1_; have BK282 := n2_; have HB := n3_; have BK311 := n4_; have GW311 := n5_; have GE311 := n6_; have NB282_311 := n7_; have NB311_282 := n8_; clear n0_ n1_ n2_ n3_ n4_ n5_ n6_ n7_ n8_; clear hb hbox hg; obtain ⟨Ao62, co62, eo62⟩ := Kd.R_slice HO306.out; subst eo62; have hnb63 := NB311_282.out; have hnc63 := NB282_311.out; have hcz64_0 : w61.cell? ⟨gb311, 0, none⟩ = some (.slice none 0 0) := (blk_cell BK311.out 0).trans rfl; have hcz64_1 : w61.cell? ⟨gb311, 1, none⟩ = some (.int .i64 0) := (blk_cell BK311.out 1).trans rfl; have hcz64_2 : w61.cell? ⟨gb311, 2, none⟩ = some (.int .i64 0) := (blk_cell BK311.out 2).trans rfl; have hfz64_0 := blk_frozen BK311.out 0; have hfz64_1 := blk_frozen BK311.out 1; have hfz64_2 := blk_frozen BK311.out 2) | (go_at_call 41; (with_reducible refine (spec_Decimal.calls k3 (wrap64 (x10_3 - t283)) t312 _ A53.out).mono ?_); rintro e w65 ⟨rfl, hb⟩; have n0_ := Aside0.mk (Kd.R_below (by (with_reducible repeat (first | apply Kd.R_alloc | apply Kd.R_drewN | apply Kd.R_drew)); exact (Kd.R_mono (Kd.R_far (p := ⟨gb311, 2, none⟩) (Kd.R_far (p := ⟨gb311, 1, none⟩) (Kd.R_far (p := ⟨gb311, 0, none⟩) (Kd.R_types HO_283000.out BK311.out (by decide)) (fun _ hk => hk.2) (.slice Ao62 t304.length co62)) (fun _ hk => hk.2) (.int .i64 t307)) (fun _ hk => hk.2) (.int .i64 t308)) (fun _ h_ => h_.1))) hb); have n1_ := Aside0.mk (Kd.R_below (by (with_reducible repeat (first | apply Kd.R_alloc | apply Kd.R_drewN | apply Kd.R_drew)); exact (Kd.R_mono (Kd.R_far (p := ⟨gb311, 2, none⟩) (Kd.R_far (p := ⟨gb311, 1, none⟩) (Kd.R_far (p := ⟨gb311, 0, none⟩) (Kd.R_types HO306.out BK311.out (by decide)) (fun _ hk => hk.2) (.slice Ao62 t304.length co62)) (fun _ hk => hk.2) (.int .i64 t307)) (fun _ hk => hk.2) (.int .i64 t308)) (fun _ h_ => h_.1))) hb); have n2_ := Aside0.mk (blk_below (g := gb282) (o := .cells #[.slice Ao59 x283000_3.length co59, .int .i64 x283001_3, .int .i64 x283002_3] 57 (0, 0)) (by (with_reducible repeat (first | refine blk_drewN ?_ _ | refine blk_drew ?_ | refine blk_alloc ?_ _)); refine blk_far ?_ NB282_311.out _; (with_reducible repeat (first | refine blk_drewN ?_ _ | refine blk_drew ?_ | refine blk_alloc ?_ _)); refine blk_far ?_ NB282_311.out _; (with_reducible repeat (first | refine blk_drewN ?_ _ | refine blk_drew ?_ | refine blk_alloc ?_ _)); refine blk_far ?_ NB282_311.out _; (with_reducible repeat (first | refine blk_drewN ?_ _ | refine blk_drew ?_ | refine blk_alloc ?_ _)); exact BK282.out) hb); have n3_ := Aside0.mk (blk_below (g := gb311) (o := .cells #[.slice Ao62 t304.length co62, .int .i64 t307, .int .i64 t308] 57 (0, 0)) (by (with_reducible repeat (first | refine blk_drewN ?_ _ | refine blk_drew ?_ | refine blk_alloc ?_ _)); refine blk_put (cs := #[.slice Ao62 t304.length co62, .int .i64 t307, .int .i64 0]) ?_ 2 _ rfl; (with_reducible repeat (first | refine blk_drewN ?_ _ | refine blk_drew ?_ | refine blk_alloc ?_ _)); refine blk_put (cs := #[.slice Ao62 t304.length co62, .int .i64 0, .int .i64 0]) ?_ 1 _ rfl; (with_reducible repeat (first | refine blk_drewN ?_ _ | refine blk_drew ?_ | refine blk_alloc ?_ _)); refine blk_put (cs := #[.slice none 0 0, .int .i64 0, .int .i64 0]) ?_ 0 _ rfl; (with_reducible repeat (first | refine blk_drewN ?_ _ | refine blk_drew ?_ | refine blk_alloc ?_ _)); exact BK311.out) hb); have n4_ := Aside0.mk (below_step (by repeat (first | (with_reducible first | exact HB.out | apply below_alloc | apply pw_below_drewN | apply below_drew1 | refine below_set ?_ GE282.out | refine below_set ?_ GE311.out) | exact HB.out)) hb); clear HO_283000; clear HO306; clear BK282; clear BK311; clear HB; have HO_283000 := n0_; have HO306 := n1_; have BK282 := n2_; have BK311 := n3_; have HB := n4_; clear n0_ n1_ n2_ n3_ n4_; (try clear hb); (try clear hb2); (try clear hk); (try clear hi); have hcz66_0 : w65.cell? ⟨gb311, 0, none⟩ = some (.slice Ao62 t304.length co62) := (blk_cell BK311.out 0).trans rfl; have hcz66_1 : w65.cell? ⟨gb311, 1, none⟩ = some (.int .i64 t307) := (blk_cell BK311.out 1).trans rfl; have hcz66_2 : w65.cell? ⟨gb311, 2, none⟩ = some (.int .i64 t308) := (blk_cell BK311.out 2).trans rfl; have hfz66_0 := blk_frozen BK311.out 0; have hfz66_1 := blk_frozen BK311.out 1; have hfz66_2 := blk_frozen BK311.out 2) | (go_at_call 39; (with_reducible refine (impl_HeldBy.calls k3 _ _ t304 t307 t308 t313 _ ?side1 ?side2 A56.out).mono ?_); (case side1 => repeat (first | exact (Kd.R_reads' HO306.out).2.2 | (with_reducible refine Kd.C_alloc ?_ _) | (with_reducible refine Kd.C_drewN ?_ _) | (with_reducible refine Kd.C_drew ?_))); (case side2 => exact (Kd.R_reads' HO306.out).2.1); rintro e w67 ⟨rfl, hb⟩; have n0_ := Aside0.mk (Kd.R_below (by (with_reducible repeat (first | apply Kd.R_alloc | apply Kd.R_drewN | apply Kd.R_drew)); exact HO_283000.out) hb); have n1_ := Aside0.mk (Kd.R_below (by (with_reducible repeat (first | apply Kd.R_alloc | apply Kd.R_drewN | apply Kd.R_drew)); exact HO306.out) hb); have n2_ := Aside0.mk (blk_below (g := gb282) (o := .cells #[.slice Ao59 x283000_3.length co59, .int .i64 x283001_3, .int .i64 x283002_3] 57 (0, 0)) (by (with_reducible repeat (first | refine blk_drewN ?_ _ | refine blk_drew ?_ | refine blk_alloc ?_ _)); exact BK282.out) hb); have n3_ := Aside0.mk (blk_below (g := gb311) (o := .cells #[.slice Ao62 t304.length co62, .int .i64 t307, .int .i64 t308] 57 (0, 0)) (by (with_reducible repeat (first | refine blk_drewN ?_ _ | refine blk_drew ?_ | refine blk_alloc ?_ _)); exact BK311.out) hb); have n4_ := Aside0.mk (below_step (by repeat (first | (with_reducible first | exact HB.out | apply below_alloc | apply pw_below_drewN | apply below_drew1 | refine below_set ?_ GE282.out | refine below_set ?_ GE311.out) | exact HB.out)) hb); clear HO_283000; clear HO306; clear BK282; clear BK311; clear HB; have HO_283000 := n0_; have HO306 := n1_; have BK282 := n2_; have BK311 := n3_; have HB := n4_; clear n0_ n1_ n2_ n3_ n4_; (try clear hb); (try clear hb2); (try clear hk); (try clear hi); have hcz68_0 : w67.cell? ⟨gb311, 0, none⟩ = some (.slice Ao62 t304.length co62) := (blk_cell BK311.out 0).trans rfl; have hcz68_1 : w67.cell? ⟨gb311, 1, none⟩ = some (.int .i64 t307) := (blk_cell BK311.out 1).trans rfl; have hcz68_2 : w67.cell? ⟨gb311, 2, none⟩ = some (.int .i64 t308) := (blk_cell BK311.out 2).trans rfl; have hfz68_0 := blk_frozen BK311.out 0; have hfz68_1 := blk_frozen BK311.out 1; have hfz68_2 := blk_frozen BK311.out 2; have hcz69_0 : w67.cell? ⟨gb282, 0, none⟩ = some (.slice Ao59 x283000_3.length co59) := (blk_cell BK282.out 0).trans rfl; have hcz69_1 : w67.cell? ⟨gb282, 1, none⟩ = some (.int .i64 x283001_3) := (blk_cell BK282.out 1).trans rfl; have hcz69_2 : w67.cell? ⟨gb282, 2, none⟩ = some (.int .i64 x283002_3) := (blk_cell BK282.out 2).trans rfl; have hfz69_0 := blk_frozen BK282.out 0; have hfz69_1 := blk_frozen BK282.out 1; have hfz69_2 := blk_frozen BK282.out 2))
                                go_roundg k3
                                case measure => have := HK1.out; have := HJ38.out; have := HK3.out; omega
                                case rel => exact ⟨(wrap64 (x10_3 + 1)), (t304), (t307), (t308), (.slice Ao62 t304.length co62), (by first | rfl | (simp; done) | (simp [*]; done)), H', ⟨by have := HK1.out; have := HJ38.out; have := HK3.out; omega⟩, ⟨by (with_reducible repeat (first | apply Kd.R_alloc | apply Kd.R_drewN | apply Kd.R_drew)); exact Kd.R_mono (Kd.R_far (p := ⟨gb282, 2, none⟩) (Kd.R_far (p := ⟨gb282, 1, none⟩) (Kd.R_far (p := ⟨gb282, 0, none⟩) (Kd.R_types HO306.out BK282.out (by decide)) (fun _ hk => hk.2) (.slice Ao62 t304.length co62)) (fun _ hk => hk.2) (.int .i64 t307)) (fun _ hk => hk.2) (.int .i64 t308)) (fun _ hk => trivial)⟩, ⟨by (with_reducible repeat (first | refine blk_drewN ?_ _ | refine blk_drew ?_ | refine blk_alloc ?_ _)); refine blk_put (cs := #[.slice Ao62 t304.length co62, .int .i64 t307, .int .i64 x283002_3]) ?_ 2 _ rfl; (with_reducible repeat (first | refine blk_drewN ?_ _ | refine blk_drew ?_ | refine blk_alloc ?_ _)); refine blk_put (cs := #[.slice Ao62 t304.length co62, .int .i64 x283001_3, .int .i64 x283002_3]) ?_ 1 _ rfl; (with_reducible repeat (first | refine blk_drewN ?_ _ | refine blk_drew ?_ | refine blk_alloc ?_ _)); refine blk_put (cs := #[.slice Ao59 x283000_3.length co59, .int .i64 x283001_3, .int .i64 x283002_3]) ?_ 0 _ rfl; (with_reducible repeat (first | refine blk_drewN ?_ _ | refine blk_drew ?_ | refine blk_alloc ?_ _)); exact BK282.out⟩, ⟨by repeat (first | (with_reducible first | exact HB.out | apply below_alloc | apply pw_below_drewN | apply below_drew1 | refine below_set ?_ GE282.out | refine below_set ?_ GE311.out) | exact HB.out)⟩⟩
                              · rw [if_neg c57] at H
                                have c57b0 : (t313 == (wrap64 ((wrap64 ((t277.length : Int) - x10_3)) - 1))) = false := beq_eq_false_iff_ne.mpr c57
                                have c57b1 : (t313 != (wrap64 ((wrap64 ((t277.length : Int) - x10_3)) - 1))) = true := bne_iff_ne.mpr c57
                                exact absurd ((Option.some.inj H).trans HLT.out) (by decide)
                            · rw [if_neg c55] at H
                              have c55b0 : (t309.toList == ((⟨#[116, 101, 120, 116]⟩ : ByteArray) ++ t312).toList) = false := beq_eq_false_iff_ne.mpr c55
                              have c55b1 : (t309.toList != ((⟨#[116, 101, 120, 116]⟩ : ByteArray) ++ t312).toList) = true := bne_iff_ne.mpr c55
                              exact absurd ((Option.some.inj H).trans HLT.out) (by decide)
                          · rw [if_neg c54] at H
                            exact absurd H (by simp)
                        · rw [if_neg c52] at H
                          have c52b0 : decide (t283 ≤ x10_3) = false := decide_eq_false c52
                          have c52b1 : decide (x10_3 < t283) = true := decide_eq_true (by omega)
                          clear c52
                          replace H := Option.bind_eq_some_iff.mp H
                          obtain ⟨t314, A700, H⟩ := H
                          replace H : (if t314 = (wrap64 ((wrap64 ((t277.length : Int) - x10_3)) - 1)) then (laws_FnRings.l1 k3 (t277.length : Int) t283 (wrap64 (x10_3 + 1)) t304 t307 t308) else (some false)) = some r := H
                          have A70 := Aside0.mk A700
                          clear A700
                          by_cases c71 : t314 = (wrap64 ((wrap64 ((t277.length : Int) - x10_3)) - 1))
                          · rw [if_pos c71] at H
                            have c71b0 : (t314 == (wrap64 ((wrap64 ((t277.length : Int) - x10_3)) - 1))) = true := beq_iff_eq.mpr c71
                            have c71b1 : (t314 != (wrap64 ((wrap64 ((t277.length : Int) - x10_3)) - 1))) = false := bne_eq_false_iff_eq.mpr c71
                            clear c71
                            have H' := Aside0.mk H
                            clear H
                            have hcz72_0 : wr.cell? ⟨gb282, 0, none⟩ = some (u283000) := (blk_cell BK282.out 0).trans rfl
                            have hcz72_1 : wr.cell? ⟨gb282, 1, none⟩ = some (.int .i64 x283001_3) := (blk_cell BK282.out 1).trans rfl
                            have hcz72_2 : wr.cell? ⟨gb282, 2, none⟩ = some (.int .i64 x283002_3) := (blk_cell BK282.out 2).trans rfl
                            have hfz72_0 := blk_frozen BK282.out 0
                            have hfz72_1 := blk_frozen BK282.out 1
                            have hfz72_2 := blk_frozen BK282.out 2
                            obtain ⟨Ao73, co73, eo73⟩ := Kd.R_slice HO_283000.out
                            subst eo73
                            go_wp2_with (first | ((with_reducible refine gate_callee (f := 43) rfl ?_); refine goesL_ (some 74) rfl rfl Try.func43 (by kernel_rfl) rfl #[.agg #[.slice Ao73 x283000_3.length co73, .int .i64 x283001_3, .int .i64 x283002_3]] rfl (by (try simp only [List.map_toArray, List.map_cons, List.map_nil]); first | done | rfl | (simp only [List.length_drop, List.length_take]; rfl)) ?_; (with_reducible refine (impl_TakeRing.calls k3 _ _ x283000_3 x283001_3 x283002_3 t304 t307 t308 t309 true _ ?side1 ?side2 A50.out).mono ?_); (case side1 => repeat (first | exact (Kd.R_reads' HO_283000.out).2.2 | (with_reducible refine Kd.C_alloc ?_ _) | (with_reducible refine Kd.C_drewN ?_ _) | (with_reducible refine Kd.C_drew ?_))); (case side2 => exact (Kd.R_reads' HO_283000.out).2.1); rintro e w74 ⟨v305, rfl, ho0, hb⟩; refine ⟨_, rfl, ?_⟩; have n0_ := Aside0.mk (Kd.R_elder' (by (with_reducible repeat (first | apply Kd.R_alloc | apply Kd.R_drewN | apply Kd.R_drew)); exact HO_283000.out) (Kd.R_base ho0) hb); have n1_ := Aside0.mk (Kd.R_lower (Kd.R_new' ho0 (Kd.R_lt (by (with_reducible repeat (first | apply Kd.R_alloc | apply Kd.R_drewN | apply Kd.R_drew)); exact HO_283000.out))) (below_size (by repeat (first | (with_reducible first | exact HB.out | apply below_alloc | apply pw_below_drewN | apply below_drew1 | refine below_set ?_ GE282.out) | exact HB.out)))); have n2_ := Aside0.mk (blk_below (g := gb282) (o := .cells #[.slice Ao73 x283000_3.length co73, .int .i64 x283001_3, .int .i64 x283002_3] 57 (0, 0)) (by (with_reducible repeat (first | refine blk_drewN ?_ _ | refine blk_drew ?_ | refine blk_alloc ?_ _)); exact BK282.out) hb); have n3_ := Aside0.mk (below_step (by repeat (first | (with_reducible first | exact HB.out | apply below_alloc | apply pw_below_drewN | apply below_drew1 | refine below_set ?_ GE282.out) | exact HB.out)) hb); clear HO_283000; clear BK282; clear HB; have HO_283000 := n0_; have HO306 := n1_; have BK282 := n2_; have HB := n3_; clear n0_ n1_ n2_ n3_; (try clear hb); (try clear hb2); (try clear hk); (try clear hi); (try clear ho0)) | ((with_reducible refine gate_dst (N := 11) rfl ?_); refine box_event ?hg (N := 11) ?hd (cs := #[.slice none 0 0, .int .i64 0, .int .i64 0]) (t := 57) ?hr ?_; (case hd => rfl); (case hg => rfl); (case hr => first | (go_simp; done) | (go_simp; rfl)); intro gb311 hg w75 hbox hb; have n0_ := Aside0.mk (Kd.R_below (by (with_reducible repeat (first | apply Kd.R_alloc | apply Kd.R_drewN | apply Kd.R_drew)); exact HO_283000.out) hb); have n1_ := Aside0.mk (Kd.R_below (by (with_reducible repeat (first | apply Kd.R_alloc | apply Kd.R_drewN | apply Kd.R_drew)); exact HO306.out) hb); have n2_ := Aside0.mk (blk_below (g := gb282) (o := .cells #[.slice Ao73 x283000_3.length co73, .int .i64 x283001_3, .int .i64 x283002_3] 57 (0, 0)) (by (with_reducible repeat (first | refine blk_drewN ?_ _ | refine blk_drew ?_ | refine blk_alloc ?_ _)); exact BK282.out) hb); have n3_ := Aside0.mk (below_step (by repeat (first | (with_reducible first | exact HB.out | apply below_alloc | apply pw_below_drewN | apply below_drew1 | refine below_set ?_ GE282.out) | exact HB.out)) hb); have n4_ := Aside0.mk (hbox); have n5_ := Aside0.mk ((by rw [hg]; exact (below_size (by repeat (first | (with_reducible first | exact HB.out | apply below_alloc | apply pw_below_drewN | apply below_drew1 | refine below_set ?_ GE282.out) | exact HB.out))) : w.heap.size ≤ gb311)); have n6_ := Aside0.mk ((by rw [hg]; exact (below_size (by repeat (first | (with_reducible first | exact HB.out | apply below_alloc | apply pw_below_drewN | apply below_drew1 | refine below_set ?_ GE282.out) | exact HB.out))) : w.heap.size ≤ gb311)); have n7_ := Aside0.mk ((by rw [hg]; exact Nat.ne_of_lt (blk_lt (g := gb282) (o := .cells #[.slice Ao73 x283000_3.length co73, .int .i64 x283001_3, .int .i64 x283002_3] 57 (0, 0)) (by (with_reducible repeat (first | refine blk_drewN ?_ _ | refine blk_drew ?_ | refine blk_alloc ?_ _)); exact BK282.out)) : gb282 ≠ gb311)); have n8_ := Aside0.mk ((by rw [hg]; exact Nat.ne_of_gt (blk_lt (g := gb282) (o := .cells #[.slice Ao73 x283000_3.length co73, .int .i64 x283001_3, .int .i64 x283002_3] 57 (0, 0)) (by (with_reducible repeat (first | refine blk_drewN ?_ _ | refine blk_drew ?_ | refine blk_alloc ?_ _)); exact BK282.out)) : gb311 ≠ gb282)); clear HO_283000; clear HO306; clear BK282; clear HB; have HO_283000 := n0_; have HO306 := n1_; have BK282 := n2_; have HB := n3_; have BK311 := n4_; have GW311 := n5_; have GE311 := n6_; have NB282_311 := n7_; have NB311_282 := n8_; clear n0_ n1_ n2_ n3_ n4_ n5_ n6_ n7_ n8_; clear hb hbox hg; obtain ⟨Ao76, co76, eo76⟩ := Kd.R_slice HO306.out; subst eo76; have hnb77 := NB311_282.out; have hnc77 := NB282_311.out; have hcz78_0 : w75.cell? ⟨gb311, 0, none⟩ = some (.slice none 0 0) := (blk_cell BK311.out 0).trans rfl; have hcz78_1 : w75.cell? ⟨gb311, 1, none⟩ = some (.int .i64 0) := (blk_cell BK311.out 1).trans rfl; have hcz78_2 : w75.cell? ⟨gb311, 2, none⟩ = some (.int .i64 0) := (blk_cell BK311.out 2).trans rfl; have hfz78_0 := blk_frozen BK311.out 0; have hfz78_1 := blk_frozen BK311.out 1; have hfz78_2 := blk_frozen BK311.out 2) | (go_at_call 39; (with_reducible refine (impl_HeldBy.calls k3 _ _ t304 t307 t308 t314 _ ?side1 ?side2 A70.out).mono ?_); (case side1 => refine (Kd.R_reads' (e := 138) (base := w.heap.size) (ok := fun k_ => (True ∧ some k_ ≠ (.slice Ao73 x283000_3.length co73 : Value).ownBlock)) (n := t304.length) (c := co76) ?_).2.2; exact (by (with_reducible repeat (first | apply Kd.R_alloc | apply Kd.R_drewN | apply Kd.R_drew)); exact (Kd.R_mono (Kd.R_far (p := ⟨gb311, 2, none⟩) (Kd.R_far (p := ⟨gb311, 1, none⟩) (Kd.R_far (p := ⟨gb311, 0, none⟩) (Kd.R_types HO306.out BK311.out (by decide)) (fun _ hk => hk.2) (.slice Ao76 t304.length co76)) (fun _ hk => hk.2) (.int .i64 t307)) (fun _ hk => hk.2) (.int .i64 t308)) (fun _ h_ => h_.1)))); (case side2 => exact (Kd.R_reads' HO306.out).2.1); rintro e w79 ⟨rfl, hb⟩; have n0_ := Aside0.mk (Kd.R_below (by (with_reducible repeat (first | apply Kd.R_alloc | apply Kd.R_drewN | apply Kd.R_drew)); exact (Kd.R_mono (Kd.R_far (p := ⟨gb311, 2, none⟩) (Kd.R_far (p := ⟨gb311, 1, none⟩) (Kd.R_far (p := ⟨gb311, 0, none⟩) (Kd.R_types HO_283000.out BK311.out (by decide)) (fun _ hk => hk.2) (.slice Ao76 t304.length co76)) (fun _ hk => hk.2) (.int .i64 t307)) (fun _ hk => hk.2) (.int .i64 t308)) (fun _ h_ => h_.1))) hb); have n1_ := Aside0.mk (Kd.R_below (by (with_reducible repeat (first | apply Kd.R_alloc | apply Kd.R_drewN | apply Kd.R_drew)); exact (Kd.R_mono (Kd.R_far (p := ⟨gb311, 2, none⟩) (Kd.R_far (p := ⟨gb311, 1, none⟩) (Kd.R_far (p := ⟨gb311, 0, none⟩) (Kd.R_types HO306.out BK311.out (by decide)) (fun _ hk => hk.2) (.slice Ao76 t304.length co76)) (fun _ hk => hk.2) (.int .i64 t307)) (fun _ hk => hk.2) (.int .i64 t308)) (fun _ h_ => h_.1))) hb); have n2_ := Aside0.mk (blk_below (g := gb282) (o := .cells #[.slice Ao73 x283000_3.length co73, .int .i64 x283001_3, .int .i64 x283002_3] 57 (0, 0)) (by (with_reducible repeat (first | refine blk_drewN ?_ _ | refine blk_drew ?_ | refine blk_alloc ?_ _)); refine blk_far ?_ NB282_311.out _; (with_reducible repeat (first | refine blk_drewN ?_ _ | refine blk_drew ?_ | refine blk_alloc ?_ _)); refine blk_far ?_ NB282_311.out _; (with_reducible repeat (first | refine blk_drewN ?_ _ | refine blk_drew ?_ | refine blk_alloc ?_ _)); refine blk_far ?_ NB282_311.out _; (with_reducible repeat (first | refine blk_drewN ?_ _ | refine blk_drew ?_ | refine blk_alloc ?_ _)); exact BK282.out) hb); have n3_ := Aside0.mk (blk_below (g := gb311) (o := .cells #[.slice Ao76 t304.length co76, .int .i64 t307, .int .i64 t308] 57 (0, 0)) (by (with_reducible repeat (first | refine blk_drewN ?_ _ | refine blk_drew ?_ | refine blk_alloc ?_ _)); refine blk_put (cs := #[.slice Ao76 t304.length co76, .int .i64 t307, .int .i64 0]) ?_ 2 _ rfl; (with_reducible repeat (first | refine blk_drewN ?_ _ | refine blk_drew ?_ | refine blk_alloc ?_ _)); refine blk_put (cs := #[.slice Ao76 t304.length co76, .int .i64 0, .int .i64 0]) ?_ 1 _ rfl; (with_reducible repeat (first | refine blk_drewN ?_ _ | refine blk_drew ?_ | refine blk_alloc ?_ _)); refine blk_put (cs := #[.slice none 0 0, .int .i64 0, .int .i64 0]) ?_ 0 _ rfl; (with_reducible repeat (first | refine blk_drewN ?_ _ | refine blk_drew ?_ | refine blk_alloc ?_ _)); exact BK311.out) hb); have n4_ := Aside0.mk (below_step (by repeat (first | (with_reducible first | exact HB.out | apply below_alloc | apply pw_below_drewN | apply below_drew1 | refine below_set ?_ GE282.out | refine below_set ?_ GE311.out) | exact HB.out)) hb); clear HO_283000; clear HO306; clear BK282; clear BK311; clear HB; have HO_283000 := n0_; have HO306 := n1_; have BK282 := n2_; have BK311 := n3_; have HB := n4_; clear n0_ n1_ n2_ n3_ n4_; (try clear hb); (try clear hb2); (try clear hk); (try clear hi); have hcz80_0 : w79.cell? ⟨gb311, 0, none⟩ = some (.slice Ao76 t304.length co76) := (blk_cell BK311.out 0).trans rfl; have hcz80_1 : w79.cell? ⟨gb311, 1, none⟩ = some (.int .i64 t307) := (blk_cell BK311.out 1).trans rfl; have hcz80_2 : w79.cell? ⟨gb311, 2, none⟩ = some (.int .i64 t308) := (blk_cell BK311.out 2).trans rfl; have hfz80_0 := blk_frozen BK311.out 0; have hfz80_1 := blk_frozen BK311.out 1; have hfz80_2 := blk_frozen BK311.out 2; have hcz81_0 : w79.cell? ⟨gb282, 0, none⟩ = some (.slice Ao73 x283000_3.length co73) := (blk_cell BK282.out 0).trans rfl; have hcz81_1 : w79.cell? ⟨gb282, 1, none⟩ = some (.int .i64 x283001_3) := (blk_cell BK282.out 1).trans rfl; have hcz81_2 : w79.cell? ⟨gb282, 2, none⟩ = some (.int .i64 x283002_3) := (blk_cell BK282.out 2).trans rfl; have hfz81_0 := blk_frozen BK282.out 0; have hfz81_1 := blk_frozen BK282.out 1; have hfz81_2 := blk_frozen BK282.out 2))
                            go_roundg k3
                            case measure => have := HK1.out; have := HJ38.out; have := HK3.out; omega
                            case rel => exact ⟨(wrap64 (x10_3 + 1)), (t304), (t307), (t308), (.slice Ao76 t304.length co76), (by first | rfl | (simp; done) | (simp [*]; done)), H', ⟨by have := HK1.out; have := HJ38.out; have := HK3.out; omega⟩, ⟨by (with_reducible repeat (first | apply Kd.R_alloc | apply Kd.R_drewN | apply Kd.R_drew)); exact Kd.R_mono (Kd.R_far (p := ⟨gb282, 2, none⟩) (Kd.R_far (p := ⟨gb282, 1, none⟩) (Kd.R_far (p := ⟨gb282, 0, none⟩) (Kd.R_types HO306.out BK282.out (by decide)) (fun _ hk => hk.2) (.slice Ao76 t304.length co76)) (fun _ hk => hk.2) (.int .i64 t307)) (fun _ hk => hk.2) (.int .i64 t308)) (fun _ hk => trivial)⟩, ⟨by (with_reducible repeat (first | refine blk_drewN ?_ _ | refine blk_drew ?_ | refine blk_alloc ?_ _)); refine blk_put (cs := #[.slice Ao76 t304.length co76, .int .i64 t307, .int .i64 x283002_3]) ?_ 2 _ rfl; (with_reducible repeat (first | refine blk_drewN ?_ _ | refine blk_drew ?_ | refine blk_alloc ?_ _)); refine blk_put (cs := #[.slice Ao76 t304.length co76, .int .i64 x283001_3, .int .i64 x283002_3]) ?_ 1 _ rfl; (with_reducible repeat (first | refine blk_drewN ?_ _ | refine blk_drew ?_ | refine blk_alloc ?_ _)); refine blk_put (cs := #[.slice Ao73 x283000_3.length co73, .int .i64 x283001_3, .int .i64 x283002_3]) ?_ 0 _ rfl; (with_reducible repeat (first | refine blk_drewN ?_ _ | refine blk_drew ?_ | refine blk_alloc ?_ _)); exact BK282.out⟩, ⟨by repeat (first | (with_reducible first | exact HB.out | apply below_alloc | apply pw_below_drewN | apply below_drew1 | refine below_set ?_ GE282.out | refine below_set ?_ GE311.out) | exact HB.out)⟩⟩
                          · rw [if_neg c71] at H
                            have c71b0 : (t314 == (wrap64 ((wrap64 ((t277.length : Int) - x10_3)) - 1))) = false := beq_eq_false_iff_ne.mpr c71
                            have c71b1 : (t314 != (wrap64 ((wrap64 ((t277.length : Int) - x10_3)) - 1))) = true := bne_iff_ne.mpr c71
                            exact absurd ((Option.some.inj H).trans HLT.out) (by decide)
                      · replace c51 := Bool.eq_false_iff.mpr c51
                        subst c51
                        have H1 : (some false) = some r := by rw [if_neg (show ¬ (false = true) by decide)] at H; exact H
                        clear H
                        have H := H1
                        clear H1
                        exact absurd ((Option.some.inj H).trans HLT.out) (by decide)
                    · rw [if_neg c49] at H
                      have c49b0 : decide (x10_3 < (t277.length : Int)) = false := decide_eq_false c49
                      have c49b1 : decide ((t277.length : Int) ≤ x10_3) = true := decide_eq_true (by omega)
                      clear c49
                      replace H := Option.bind_eq_some_iff.mp H
                      obtain ⟨⟨t294, t297, t298, t299, t300⟩, A820, H⟩ := H
                      replace H : (if t300 = true then (some false) else ((impl_RingOk.f k3 x283000_3 x283001_3 x283002_3).bind fun t302 => (if t302 = true then ((impl_HeldBy.f k3 x283000_3 x283001_3 x283002_3).bind fun t303 => (some (t303 == 0))) else (some false)))) = some r := H
                      have A82 := Aside0.mk A820
                      clear A820
                      by_cases c83 : t300 = true
                      · subst c83
                        have H1 : (some false) = some r := by rw [if_pos rfl] at H; exact H
                        clear H
                        have H := H1
                        clear H1
                        exact absurd ((Option.some.inj H).trans HLT.out) (by decide)
                      · replace c83 := Bool.eq_false_iff.mpr c83
                        subst c83
                        have H1 : ((impl_RingOk.f k3 x283000_3 x283001_3 x283002_3).bind fun t302 => (if t302 = true then ((impl_HeldBy.f k3 x283000_3 x283001_3 x283002_3).bind fun t303 => (some (t303 == 0))) else (some false))) = some r := by rw [if_neg (show ¬ (false = true) by decide)] at H; exact H
                        clear H
                        have H := H1
                        clear H1
                        replace H := Option.bind_eq_some_iff.mp H
                        obtain ⟨t302, A840, H⟩ := H
                        replace H : (if t302 = true then ((impl_HeldBy.f k3 x283000_3 x283001_3 x283002_3).bind fun t303 => (some (t303 == 0))) else (some false)) = some r := H
                        have A84 := Aside0.mk A840
                        clear A840
                        by_cases c85 : t302 = true
                        · subst c85
                          have H1 : ((impl_HeldBy.f k3 x283000_3 x283001_3 x283002_3).bind fun t303 => (some (t303 == 0))) = some r := by rw [if_pos rfl] at H; exact H
                          clear H
                          have H := H1
                          clear H1
                          replace H := Option.bind_eq_some_iff.mp H
                          obtain ⟨t303, A860, H⟩ := H
                          replace H : (some (t303 == 0)) = some r := H
                          have A86 := Aside0.mk A860
                          clear A860
                          obtain rfl := Option.some.inj H
                          have hcz87_0 : wr.cell? ⟨gb282, 0, none⟩ = some (u283000) := (blk_cell BK282.out 0).trans rfl
                          have hcz87_1 : wr.cell? ⟨gb282, 1, none⟩ = some (.int .i64 x283001_3) := (blk_cell BK282.out 1).trans rfl
                          have hcz87_2 : wr.cell? ⟨gb282, 2, none⟩ = some (.int .i64 x283002_3) := (blk_cell BK282.out 2).trans rfl
                          have hfz87_0 := blk_frozen BK282.out 0
                          have hfz87_1 := blk_frozen BK282.out 1
                          have hfz87_2 := blk_frozen BK282.out 2
                          obtain ⟨Ao88, co88, eo88⟩ := Kd.R_slice HO_283000.out
                          subst eo88
                          go_wp2_with (first | ((with_reducible refine gate_callee (f := 43) rfl ?_); refine goesL_ (some 106) rfl rfl Try.func43 (by kernel_rfl) rfl #[.agg #[.slice Ao88 x283000_3.length co88, .int .i64 x283001_3, .int .i64 x283002_3]] rfl (by (try simp only [List.map_toArray, List.map_cons, List.map_nil]); first | done | rfl | (simp only [List.length_drop, List.length_take]; rfl)) ?_; (with_reducible refine (impl_TakeRing.calls k3 _ _ x283000_3 x283001_3 x283002_3 t294 t297 t298 t299 false _ ?side1 ?side2 A82.out).mono ?_); (case side1 => repeat (first | exact (Kd.R_reads' HO_283000.out).2.2 | (with_reducible refine Kd.C_alloc ?_ _) | (with_reducible refine Kd.C_drewN ?_ _) | (with_reducible refine Kd.C_drew ?_))); (case side2 => exact (Kd.R_reads' HO_283000.out).2.1); rintro e w89 ⟨v295, rfl, ho0, hb⟩; refine ⟨_, rfl, ?_⟩; have n0_ := Aside0.mk (Kd.R_elder' (by (with_reducible repeat (first | apply Kd.R_alloc | apply Kd.R_drewN | apply Kd.R_drew)); exact HO_283000.out) (Kd.R_base ho0) hb); have n1_ := Aside0.mk (Kd.R_lower (Kd.R_new' ho0 (Kd.R_lt (by (with_reducible repeat (first | apply Kd.R_alloc | apply Kd.R_drewN | apply Kd.R_drew)); exact HO_283000.out))) (below_size (by repeat (first | (with_reducible first | exact HB.out | apply below_alloc | apply pw_below_drewN | apply below_drew1 | refine below_set ?_ GE282.out) | exact HB.out)))); have n2_ := Aside0.mk (blk_below (g := gb282) (o := .cells #[.slice Ao88 x283000_3.length co88, .int .i64 x283001_3, .int .i64 x283002_3] 57 (0, 0)) (by (with_reducible repeat (first | refine blk_drewN ?_ _ | refine blk_drew ?_ | refine blk_alloc ?_ _)); exact BK282.out) hb); have n3_ := Aside0.mk (below_step (by repeat (first | (with_reducible first | exact HB.out | apply below_alloc | apply pw_below_drewN | apply below_drew1 | refine below_set ?_ GE282.out) | exact HB.out)) hb); clear HO_283000; clear BK282; clear HB; have HO_283000 := n0_; have HO296 := n1_; have BK282 := n2_; have HB := n3_; clear n0_ n1_ n2_ n3_; (try clear hb); (try clear hb2); (try clear hk); (try clear hi); (try clear ho0)) | ((with_reducible refine gate_dst (N := 14) rfl ?_); refine box_event ?hg (N := 14) ?hd (cs := #[.slice none 0 0, .int .i64 0, .int .i64 0]) (t := 57) ?hr ?_; (case hd => rfl); (case hg => rfl); (case hr => first | (go_simp; done) | (go_simp; rfl)); intro gb301 hg w90 hbox hb; have n0_ := Aside0.mk (Kd.R_below (by (with_reducible repeat (first | apply Kd.R_alloc | apply Kd.R_drewN | apply Kd.R_drew)); exact HO_283000.out) hb); have n1_ := Aside0.mk (Kd.R_below (by (with_reducible repeat (first | apply Kd.R_alloc | apply Kd.R_drewN | apply Kd.R_drew)); exact HO296.out) hb); have n2_ := Aside0.mk (blk_below (g := gb282) (o := .cells #[.slice Ao88 x283000_3.length co88, .int .i64 x283001_3, .int .i64 x283002_3] 57 (0, 0)) (by (with_reducible repeat (first | refine blk_drewN ?_ _ | refine blk_drew ?_ | refine blk_alloc ?_ _)); exact BK282.out) hb); have n3_ := Aside0.mk (below_step (by repeat (first | (with_reducible first | exact HB.out | apply below_alloc | apply pw_below_drewN | apply below_drew1 | refine below_set ?_ GE282.out) | exact HB.out)) hb); have n4_ := Aside0.mk (hbox); have n5_ := Aside0.mk ((by rw [hg]; exact (below_size (by repeat (first | (with_reducible first | exact HB.out | apply below_alloc | apply pw_below_drewN | apply below_drew1 | refine below_set ?_ GE282.out) | exact HB.out))) : w.heap.size ≤ gb301)); have n6_ := Aside0.mk ((by rw [hg]; exact (below_size (by repeat (first | (with_reducible first | exact HB.out | apply below_alloc | apply pw_below_drewN | apply below_drew1 | refine below_set ?_ GE282.out) | exact HB.out))) : w.heap.size ≤ gb301)); have n7_ := Aside0.mk ((by rw [hg]; exact Nat.ne_of_lt (blk_lt (g := gb282) (o := .cells #[.slice Ao88 x283000_3.length co88, .int .i64 x283001_3, .int .i64 x283002_3] 57 (0, 0)) (by (with_reducible repeat (first | refine blk_drewN ?_ _ | refine blk_drew ?_ | refine blk_alloc ?_ _)); exact BK282.out)) : gb282 ≠ gb301)); have n8_ := Aside0.mk ((by rw [hg]; exact Nat.ne_of_gt (blk_lt (g := gb282) (o := .cells #[.slice Ao88 x283000_3.length co88, .int .i64 x283001_3, .int .i64 x283002_3] 57 (0, 0)) (by (with_reducible repeat (first | refine blk_drewN ?_ _ | refine blk_drew ?_ | refine blk_alloc ?_ _)); exact BK282.out)) : gb301 ≠ gb282)); clear HO_283000; clear HO296; clear BK282; clear HB; have HO_283000 := n0_; have HO296 := n1_; have BK282 := n2_; have HB := n3_; have BK301 := n4_; have GW301 := n5_; have GE301 := n6_; have NB282_301 := n7_; have NB301_282 := n8_; clear n0_ n1_ n2_ n3_ n4_ n5_ n6_ n7_ n8_; clear hb hbox hg; obtain ⟨Ao91, co91, eo91⟩ := Kd.R_slice HO296.out; subst eo91; have hnb92 := NB301_282.out; have hnc92 := NB282_301.out; have hcz93_0 : w90.cell? ⟨gb301, 0, none⟩ = some (.slice none 0 0) := (blk_cell BK301.out 0).trans rfl; have hcz93_1 : w90.cell? ⟨gb301, 1, none⟩ = some (.int .i64 0) := (blk_cell BK301.out 1).trans rfl; have hcz93_2 : w90.cell? ⟨gb301, 2, none⟩ = some (.int .i64 0) := (blk_cell BK301.out 2).trans rfl; have hfz93_0 := blk_frozen BK301.out 0; have hfz93_1 := blk_frozen BK301.out 1; have hfz93_2 := blk_frozen BK301.out 2; have hcz94_0 : w90.cell? ⟨gb282, 0, none⟩ = some (.slice Ao88 x283000_3.length co88) := (blk_cell BK282.out 0).trans rfl; have hcz94_1 : w90.cell? ⟨gb282, 1, none⟩ = some (.int .i64 x283001_3) := (blk_cell BK282.out 1).trans rfl; have hcz94_2 : w90.cell? ⟨gb282, 2, none⟩ = some (.int .i64 x283002_3) := (blk_cell BK282.out 2).trans rfl; have hfz94_0 := blk_frozen BK282.out 0; have hfz94_1 := blk_frozen BK282.out 1; have hfz94_2 := blk_frozen BK282.out 2) | (go_at_call 42; (with_reducible refine (impl_RingOk.calls k3 _ _ x283000_3 x283001_3 x283002_3 true _ ?side1 ?side2 A84.out).mono ?_); (case side1 => refine (Kd.R_reads' (e := 138) (base := w.heap.size) (ok := fun k_ => (True ∧ some k_ ≠ (.slice Ao91 t294.length co91 : Value).ownBlock)) (n := x283000_3.length) (c := co88) ?_).2.2; exact (by (with_reducible repeat (first | apply Kd.R_alloc | apply Kd.R_drewN | apply Kd.R_drew)); exact (Kd.R_mono (Kd.R_far (p := ⟨gb301, 2, none⟩) (Kd.R_far (p := ⟨gb301, 1, none⟩) (Kd.R_far (p := ⟨gb301, 0, none⟩) (Kd.R_types HO_283000.out BK301.out (by decide)) (fun _ hk => hk.2) (.slice Ao91 t294.length co91)) (fun _ hk => hk.2) (.int .i64 t297)) (fun _ hk => hk.2) (.int .i64 t298)) (fun _ h_ => h_.1)))); (case side2 => exact (Kd.R_reads' HO_283000.out).2.1); rintro e w95 ⟨rfl, hb⟩; have n0_ := Aside0.mk (Kd.R_below (by (with_reducible repeat (first | apply Kd.R_alloc | apply Kd.R_drewN | apply Kd.R_drew)); exact (Kd.R_mono (Kd.R_far (p := ⟨gb301, 2, none⟩) (Kd.R_far (p := ⟨gb301, 1, none⟩) (Kd.R_far (p := ⟨gb301, 0, none⟩) (Kd.R_types HO_283000.out BK301.out (by decide)) (fun _ hk => hk.2) (.slice Ao91 t294.length co91)) (fun _ hk => hk.2) (.int .i64 t297)) (fun _ hk => hk.2) (.int .i64 t298)) (fun _ h_ => h_.1))) hb); have n1_ := Aside0.mk (Kd.R_below (by (with_reducible repeat (first | apply Kd.R_alloc | apply Kd.R_drewN | apply Kd.R_drew)); exact (Kd.R_mono (Kd.R_far (p := ⟨gb301, 2, none⟩) (Kd.R_far (p := ⟨gb301, 1, none⟩) (Kd.R_far (p := ⟨gb301, 0, none⟩) (Kd.R_types HO296.out BK301.out (by decide)) (fun _ hk => hk.2) (.slice Ao91 t294.length co91)) (fun _ hk => hk.2) (.int .i64 t297)) (fun _ hk => hk.2) (.int .i64 t298)) (fun _ h_ => h_.1))) hb); have n2_ := Aside0.mk (blk_below (g := gb282) (o := .cells #[.slice Ao88 x283000_3.length co88, .int .i64 x283001_3, .int .i64 x283002_3] 57 (0, 0)) (by (with_reducible repeat (first | refine blk_drewN ?_ _ | refine blk_drew ?_ | refine blk_alloc ?_ _)); refine blk_far ?_ NB282_301.out _; (with_reducible repeat (first | refine blk_drewN ?_ _ | refine blk_drew ?_ | refine blk_alloc ?_ _)); refine blk_far ?_ NB282_301.out _; (with_reducible repeat (first | refine blk_drewN ?_ _ | refine blk_drew ?_ | refine blk_alloc ?_ _)); refine blk_far ?_ NB282_301.out _; (with_reducible repeat (first | refine blk_drewN ?_ _ | refine blk_drew ?_ | refine blk_alloc ?_ _)); exact BK282.out) hb); have n3_ := Aside0.mk (blk_below (g := gb301) (o := .cells #[.slice Ao91 t294.length co91, .int .i64 t297, .int .i64 t298] 57 (0, 0)) (by (with_reducible repeat (first | refine blk_drewN ?_ _ | refine blk_drew ?_ | refine blk_alloc ?_ _)); refine blk_put (cs := #[.slice Ao91 t294.length co91, .int .i64 t297, .int .i64 0]) ?_ 2 _ rfl; (with_reducible repeat (first | refine blk_drewN ?_ _ | refine blk_drew ?_ | refine blk_alloc ?_ _)); refine blk_put (cs := #[.slice Ao91 t294.length co91, .int .i64 0, .int .i64 0]) ?_ 1 _ rfl; (with_reducible repeat (first | refine blk_drewN ?_ _ | refine blk_drew ?_ | refine blk_alloc ?_ _)); refine blk_put (cs := #[.slice none 0 0, .int .i64 0, .int .i64 0]) ?_ 0 _ rfl; (with_reducible repeat (first | refine blk_drewN ?_ _ | refine blk_drew ?_ | refine blk_alloc ?_ _)); exact BK301.out) hb); have n4_ := Aside0.mk (below_step (by repeat (first | (with_reducible first | exact HB.out | apply below_alloc | apply pw_below_drewN | apply below_drew1 | refine below_set ?_ GE282.out | refine below_set ?_ GE301.out) | exact HB.out)) hb); clear HO_283000; clear HO296; clear BK282; clear BK301; clear HB; have HO_283000 := n0_; have HO296 := n1_; have BK282 := n2_; have BK301 := n3_; have HB := n4_; clear n0_ n1_ n2_ n3_ n4_; (try clear hb); (try clear hb2); (try clear hk); (try clear hi); have hcz96_0 : w95.cell? ⟨gb282, 0, none⟩ = some (.slice Ao88 x283000_3.length co88) := (blk_cell BK282.out 0).trans rfl; have hcz96_1 : w95.cell? ⟨gb282, 1, none⟩ = some (.int .i64 x283001_3) := (blk_cell BK282.out 1).trans rfl; have hcz96_2 : w95.cell? ⟨gb282, 2, none⟩ = some (.int .i64 x283002_3) := (blk_cell BK282.out 2).trans rfl; have hfz96_0 := blk_frozen BK282.out 0; have hfz96_1 := blk_frozen BK282.out 1; have hfz96_2 := blk_frozen BK282.out 2) | (go_at_call 39; (with_reducible refine (impl_HeldBy.calls k3 _ _ x283000_3 x283001_3 x283002_3 t303 _ ?side1 ?side2 A86.out).mono ?_); (case side1 => repeat (first | exact (Kd.R_reads' HO_283000.out).2.2 | (with_reducible refine Kd.C_alloc ?_ _) | (with_reducible refine Kd.C_drewN ?_ _) | (with_reducible refine Kd.C_drew ?_))); (case side2 => exact (Kd.R_reads' HO_283000.out).2.1); rintro e w97 ⟨rfl, hb⟩; have n0_ := Aside0.mk (Kd.R_below (by (with_reducible repeat (first | apply Kd.R_alloc | apply Kd.R_drewN | apply Kd.R_drew)); exact HO_283000.out) hb); have n1_ := Aside0.mk (Kd.R_below (by (with_reducible repeat (first | apply Kd.R_alloc | apply Kd.R_drewN | apply Kd.R_drew)); exact HO296.out) hb); have n2_ := Aside0.mk (blk_below (g := gb282) (o := .cells #[.slice Ao88 x283000_3.length co88, .int .i64 x283001_3, .int .i64 x283002_3] 57 (0, 0)) (by (with_reducible repeat (first | refine blk_drewN ?_ _ | refine blk_drew ?_ | refine blk_alloc ?_ _)); exact BK282.out) hb); have n3_ := Aside0.mk (blk_below (g := gb301) (o := .cells #[.slice Ao91 t294.length co91, .int .i64 t297, .int .i64 t298] 57 (0, 0)) (by (with_reducible repeat (first | refine blk_drewN ?_ _ | refine blk_drew ?_ | refine blk_alloc ?_ _)); exact BK301.out) hb); have n4_ := Aside0.mk (below_step (by repeat (first | (with_reducible first | exact HB.out | apply below_alloc | apply pw_below_drewN | apply below_drew1 | refine below_set ?_ GE282.out | refine below_set ?_ GE301.out) | exact HB.out)) hb); clear HO_283000; clear HO296; clear BK282; clear BK301; clear HB; have HO_283000 := n0_; have HO296 := n1_; have BK282 := n2_; have BK301 := n3_; have HB := n4_; clear n0_ n1_ n2_ n3_ n4_; (try clear hb); (try clear hb2); (try clear hk); (try clear hi)))
                          go_ret
                          exact ⟨by first | rfl | (simp [errW_none, errW_some] <;> rfl) | (simp [*, errW_none, errW_some] <;> rfl), by repeat (first | (with_reducible first | exact HB.out | apply below_alloc | apply pw_below_drewN | apply below_drew1 | refine below_set ?_ GE282.out | refine below_set ?_ GE301.out) | exact HB.out)⟩
                        · replace c85 := Bool.eq_false_iff.mpr c85
                          subst c85
                          have H1 : (some false) = some r := by rw [if_neg (show ¬ (false = true) by decide)] at H; exact H
                          clear H
                          have H := H1
                          clear H1
                          exact absurd ((Option.some.inj H).trans HLT.out) (by decide)

/-- THE ONE PURE STATEMENT of laws_FnRings: yours. -/
def laws_FnRings.Pure : Prop := ∀ (l0 : List Int), l0.length ≤ maxLen → l0.length * 1 ≤ 140737488351232 → (∀ x ∈ l0, (Lit.int .u8 x).wf = true) → ∃ k, laws_FnRings.f k l0 = some true
theorem laws_FnRings.walk (P : laws_FnRings.Pure) (a0 : Option Addr) (len0 cap0 : Nat) (z0 : List Int) (w : World) (w0 : (a0 = none ∧ len0 = 0 ∧ cap0 = 0 ∧ z0 = []) ∨ ∃ x, a0 = some x ∧ len0 ≤ cap0 ∧ cap0 ≤ maxLen ∧ z0.length = cap0 ∧ (∀ i, i < z0.length → w.cell? (x.add i) = some (.int .u8 (z0.getD i 0))) ∧ ∀ n ∈ z0, (Lit.int .u8 n).wf = true) (y0 : len0 * 1 ≤ 140737488351232) :
    Calls Try.prog 7 #[.slice a0 len0 cap0] w fun e w' => e = .returned (.bool true) ∧ Below w.heap.size w w' := by
  obtain ⟨l0, rfl, hr0, hm0, hw0, hc0⟩ := ReadsInt.ofRowC w0
  obtain ⟨k, h⟩ := P l0 hm0 y0 hw0
  refine (laws_FnRings.calls k _ _ l0 true w (Kd.C_of_reads (d := (0 : Int)) (h1 := fun _ => rfl) hr0) hc0 h).mono ?_
  rintro e w' ⟨rfl, hd⟩
  exact ⟨rfl, hd⟩

end Go.Proofs.Ytaainenplcokaaa.QFnRings
