/- Written by the kit's print.py, called by our own print2.sh with one import more; not by print.sh. -/
import Derived.Test.YtaainenplcokaaaQFnFramesx0
import Derived.Test.YtaainenplcokaaaQFnFramesx1
import Derived.Test.YtaainenplcokaaaQFnFramesx2
import Derived.Test.YtaainenplcokaaaQFnFramesx3
namespace Go.Proofs.Ytaainenplcokaaa.QFnFrames
open Go.RowKit Go.Proofs.YtaainenplcokaaaW.PrintWords Go.Proofs.YtaainenplcokaaaW.PrintLast Go.Proofs.YtaainenplcokaaaW.PrintMore
attribute [local go_sem] max2_int min2_int max_two min_two max_three min_three max_four min_four   -- for this text's walks alone
set_option linter.unusedVariables false
set_option linter.unusedSimpArgs false

/-! ### laws_FnFrames: function 6 -/
mutual
def laws_FnFrames.j0 : Nat → List Int → List ByteArray → Bool → Option (Bool)
  | 0, _, _, _ => none
  | k + 1, x3, x4, x34 => if x34 = true then (if 0 < (x4.length : Int) then (laws_FnFrames.j1 k x3 (x4.set (0 : Int).toNat (⟨#[111, 110, 101]⟩ : ByteArray))) else (none)) else (laws_FnFrames.j1 k x3 x4)
def laws_FnFrames.j1 : Nat → List Int → List ByteArray → Option (Bool)
  | 0, _, _ => none
  | k + 1, x3, x4 => laws_FnFrames.l0 k x3 x4 (⟨#[]⟩ : ByteArray) (([0] : List Int)) 0
def laws_FnFrames.l0 : Nat → List Int → List ByteArray → ByteArray → List Int → Int → Option (Bool)
  | 0, _, _, _, _, _ => none
  | k + 1, x3, x4, x5, x6, x7 => if x7 < (x4.length : Int) then (if 0 ≤ x7 then ((impl_Frame.f k (rdOf ByteArray.empty x4 x7)).bind fun bt217 => (if bt217.2 = true then (if x5.size + bt217.1.size ≤ 9223372036854775807 then (if x6.length < 17592186044416 then (laws_FnFrames.l0 k x3 x4 (x5 ++ bt217.1) (x6 ++ [((x5 ++ bt217.1).size : Int)]) (wrap64 (x7 + 1))) else (none)) else (none)) else (some false))) else (none)) else ((impl_Unframe.f k x5).bind fun bt222 => (if bt222.2 = (x5.size : Int) then ((laws_sameTexts.f k bt222.1 x4).bind fun t226 => (laws_FnFrames.j3 k x3 x4 x5 x6 (!t226))) else (laws_FnFrames.j3 k x3 x4 x5 x6 true)))
def laws_FnFrames.j3 : Nat → List Int → List ByteArray → ByteArray → List Int → Bool → Option (Bool)
  | 0, _, _, _, _, _ => none
  | k + 1, x3, x4, x5, x6, x76 => if x76 = true then (some false) else (if 0 < (x3.length : Int) then (if (wrap64 ((x5.size : Int) + 1)) = 0 then (none) else (if 0 ≤ (Int.tmod (rd x3 0) (wrap64 ((x5.size : Int) + 1))) then (if (Int.tmod (rd x3 0) (wrap64 ((x5.size : Int) + 1))) ≤ (x5.size : Int) then ((impl_Unframe.f k (x5.extract 0 ((Int.tmod (rd x3 0) (wrap64 ((x5.size : Int) + 1))) : Int).toNat)).bind fun bt228 => (if (bt228.1.length : Int) ≤ 3 then (if 0 ≤ (bt228.1.length : Int) then (if (bt228.1.length : Int) < (x6.length : Int) then (if bt228.2 = (rd x6 (bt228.1.length : Int)) then (if bt228.2 ≤ (Int.tmod (rd x3 0) (wrap64 ((x5.size : Int) + 1))) then (if (bt228.1.length : Int) ≤ (x4.length : Int) then ((laws_sameTexts.f k bt228.1 (x4.take ((bt228.1.length : Int) : Int).toNat)).bind fun t237 => (if t237 = true then (if (bt228.1.length : Int) = 3 then (some true) else (if 0 ≤ (wrap64 ((bt228.1.length : Int) + 1)) then (if (wrap64 ((bt228.1.length : Int) + 1)) < (x6.length : Int) then (some (decide ((rd x6 (wrap64 ((bt228.1.length : Int) + 1))) > (Int.tmod (rd x3 0) (wrap64 ((x5.size : Int) + 1)))))) else (none)) else (none))) else (some false))) else (none)) else (some false)) else (some false)) else (none)) else (none)) else (some false))) else (none)) else (none))) else (none))
end
def laws_FnFrames.f (k : Nat) (l0 : List Int) : Option (Bool) := (laws_big.f l0).bind fun t202 => (if t202 = true then (some true) else ((spec_DrawPlaces.f k l0).bind fun t203 => ((spec_DrawHex.f k l0).bind fun t206 => ((some (([t206, (⟨#[116, 119, 111]⟩ : ByteArray), (⟨#[116, 104, 114, 101, 101, 32, 97, 110, 100, 32, 109, 111, 114, 101]⟩ : ByteArray)] : List ByteArray) : List ByteArray)).bind fun y207 => (if 0 < (y207.length : Int) then (if ((rdOf ByteArray.empty y207 0).size : Int) = 0 then (laws_FnFrames.j0 k t203 y207 true) else (laws_FnFrames.j0 k t203 y207 (decide (((rdOf ByteArray.empty y207 0).size : Int) > 900)))) else (none))))))
theorem laws_FnFrames.mono_l : ∀ k, (∀ y0 y1 y2, LeO (laws_FnFrames.j0 k y0 y1 y2) (laws_FnFrames.j0 (k + 1) y0 y1 y2)) ∧ (∀ y0 y1, LeO (laws_FnFrames.j1 k y0 y1) (laws_FnFrames.j1 (k + 1) y0 y1)) ∧ (∀ y0 y1 y2 y3 y4, LeO (laws_FnFrames.l0 k y0 y1 y2 y3 y4) (laws_FnFrames.l0 (k + 1) y0 y1 y2 y3 y4)) ∧ (∀ y0 y1 y2 y3 y4, LeO (laws_FnFrames.j3 k y0 y1 y2 y3 y4) (laws_FnFrames.j3 (k + 1) y0 y1 y2 y3 y4))
  | 0 => ⟨fun _ _ _ r h => by simp [laws_FnFrames.j0] at h, fun _ _ r h => by simp [laws_FnFrames.j1] at h, fun _ _ _ _ _ r h => by simp [laws_FnFrames.l0] at h, fun _ _ _ _ _ r h => by simp [laws_FnFrames.j3] at h⟩
  | k + 1 => by
    obtain ⟨ih0, ih1, ih2, ih3⟩ := laws_FnFrames.mono_l k
    refine ⟨?_, ?_, ?_, ?_⟩
    · intro y0 y1 y2
      unfold laws_FnFrames.j0
      repeat' first
      | (with_reducible exact ih0 _ _ _)
      | (with_reducible exact ih1 _ _)
      | (with_reducible exact ih2 _ _ _ _ _)
      | (with_reducible exact ih3 _ _ _ _ _)
      | (with_reducible exact impl_Frame.mono _ _)
      | (with_reducible exact impl_Unframe.mono _ _)
      | (with_reducible exact laws_sameTexts.mono _ _ _)
      | (with_reducible exact spec_DrawHex.mono _ _)
      | (with_reducible exact spec_DrawPlaces.mono _ _)
      | (with_reducible exact LeO.refl _)
      | (with_reducible exact LeO.none _)
      | (with_reducible refine LeO.ite ?_ ?_)
      | (with_reducible refine LeO.bind ?_ (fun _ => ?_))
      | exact ih0 _ _ _
      | exact ih1 _ _
      | exact ih2 _ _ _ _ _
      | exact ih3 _ _ _ _ _
      | exact impl_Frame.mono _ _
      | exact impl_Unframe.mono _ _
      | exact laws_sameTexts.mono _ _ _
      | exact spec_DrawHex.mono _ _
      | exact spec_DrawPlaces.mono _ _
      | exact LeO.none _
      | refine LeO.ite ?_ ?_
      | refine LeO.bind ?_ (fun _ => ?_)
    · intro y0 y1
      unfold laws_FnFrames.j1
      repeat' first
      | (with_reducible exact ih0 _ _ _)
      | (with_reducible exact ih1 _ _)
      | (with_reducible exact ih2 _ _ _ _ _)
      | (with_reducible exact ih3 _ _ _ _ _)
      | (with_reducible exact impl_Frame.mono _ _)
      | (with_reducible exact impl_Unframe.mono _ _)
      | (with_reducible exact laws_sameTexts.mono _ _ _)
      | (with_reducible exact spec_DrawHex.mono _ _)
      | (with_reducible exact spec_DrawPlaces.mono _ _)
      | (with_reducible exact LeO.refl _)
      | (with_reducible exact LeO.none _)
      | (with_reducible refine LeO.ite ?_ ?_)
      | (with_reducible refine LeO.bind ?_ (fun _ => ?_))
      | exact ih0 _ _ _
      | exact ih1 _ _
      | exact ih2 _ _ _ _ _
      | exact ih3 _ _ _ _ _
      | exact impl_Frame.mono _ _
      | exact impl_Unframe.mono _ _
      | exact laws_sameTexts.mono _ _ _
      | exact spec_DrawHex.mono _ _
      | exact spec_DrawPlaces.mono _ _
      | exact LeO.none _
      | refine LeO.ite ?_ ?_
      | refine LeO.bind ?_ (fun _ => ?_)
    · intro y0 y1 y2 y3 y4
      unfold laws_FnFrames.l0
      repeat' first
      | (with_reducible exact ih0 _ _ _)
      | (with_reducible exact ih1 _ _)
      | (with_reducible exact ih2 _ _ _ _ _)
      | (with_reducible exact ih3 _ _ _ _ _)
      | (with_reducible exact impl_Frame.mono _ _)
      | (with_reducible exact impl_Unframe.mono _ _)
      | (with_reducible exact laws_sameTexts.mono _ _ _)
      | (with_reducible exact spec_DrawHex.mono _ _)
      | (with_reducible exact spec_DrawPlaces.mono _ _)
      | (with_reducible exact LeO.refl _)
      | (with_reducible exact LeO.none _)
      | (with_reducible refine LeO.ite ?_ ?_)
      | (with_reducible refine LeO.bind ?_ (fun _ => ?_))
      | exact ih0 _ _ _
      | exact ih1 _ _
      | exact ih2 _ _ _ _ _
      | exact ih3 _ _ _ _ _
      | exact impl_Frame.mono _ _
      | exact impl_Unframe.mono _ _
      | exact laws_sameTexts.mono _ _ _
      | exact spec_DrawHex.mono _ _
      | exact spec_DrawPlaces.mono _ _
      | exact LeO.none _
      | refine LeO.ite ?_ ?_
      | refine LeO.bind ?_ (fun _ => ?_)
    · intro y0 y1 y2 y3 y4
      unfold laws_FnFrames.j3
      repeat' first
      | (with_reducible exact ih0 _ _ _)
      | (with_reducible exact ih1 _ _)
      | (with_reducible exact ih2 _ _ _ _ _)
      | (with_reducible exact ih3 _ _ _ _ _)
      | (with_reducible exact impl_Frame.mono _ _)
      | (with_reducible exact impl_Unframe.mono _ _)
      | (with_reducible exact laws_sameTexts.mono _ _ _)
      | (with_reducible exact spec_DrawHex.mono _ _)
      | (with_reducible exact spec_DrawPlaces.mono _ _)
      | (with_reducible exact LeO.refl _)
      | (with_reducible exact LeO.none _)
      | (with_reducible refine LeO.ite ?_ ?_)
      | (with_reducible refine LeO.bind ?_ (fun _ => ?_))
      | exact ih0 _ _ _
      | exact ih1 _ _
      | exact ih2 _ _ _ _ _
      | exact ih3 _ _ _ _ _
      | exact impl_Frame.mono _ _
      | exact impl_Unframe.mono _ _
      | exact laws_sameTexts.mono _ _ _
      | exact spec_DrawHex.mono _ _
      | exact spec_DrawPlaces.mono _ _
      | exact LeO.none _
      | refine LeO.ite ?_ ?_
      | refine LeO.bind ?_ (fun _ => ?_)
theorem laws_FnFrames.mono : ∀ a0 k, LeO (laws_FnFrames.f k a0) (laws_FnFrames.f (k + 1) a0) := by
  intro a0 k
  obtain ⟨ih0, ih1, ih2, ih3⟩ := laws_FnFrames.mono_l k
  unfold laws_FnFrames.f
  repeat' first
      | (with_reducible exact ih0 _ _ _)
      | (with_reducible exact ih1 _ _)
      | (with_reducible exact ih2 _ _ _ _ _)
      | (with_reducible exact ih3 _ _ _ _ _)
      | (with_reducible exact impl_Frame.mono _ _)
      | (with_reducible exact impl_Unframe.mono _ _)
      | (with_reducible exact laws_sameTexts.mono _ _ _)
      | (with_reducible exact spec_DrawHex.mono _ _)
      | (with_reducible exact spec_DrawPlaces.mono _ _)
      | (with_reducible exact LeO.refl _)
      | (with_reducible exact LeO.none _)
      | (with_reducible refine LeO.ite ?_ ?_)
      | (with_reducible refine LeO.bind ?_ (fun _ => ?_))
      | exact ih0 _ _ _
      | exact ih1 _ _
      | exact ih2 _ _ _ _ _
      | exact ih3 _ _ _ _ _
      | exact impl_Frame.mono _ _
      | exact impl_Unframe.mono _ _
      | exact laws_sameTexts.mono _ _ _
      | exact spec_DrawHex.mono _ _
      | exact spec_DrawPlaces.mono _ _
      | exact LeO.none _
      | refine LeO.ite ?_ ?_
      | refine LeO.bind ?_ (fun _ => ?_)
set_option maxHeartbeats 8000000 in
set_option maxRecDepth 100000 in
theorem laws_FnFrames.calls (k : Nat) (A0 : Option Addr) (c0 : Nat) (l0 : List Int) (r : Bool) (w : World) (hr0 : Kd.C (Kd.int .u8) w A0 l0.length l0) (hc0 : l0.length ≤ c0) (h : laws_FnFrames.f k l0 = some r) (hrt : r = true := by rfl) :
    Calls Try.prog 6 #[.slice A0 l0.length c0] w fun e w' => e = .returned (.bool r) ∧ Below w.heap.size w w' := by
  have HR0 := Aside0.mk hr0
  have HC0 := Aside0.mk hc0
  clear hr0 hc0
  have HB := Aside0.mk (Below.refl w.heap.size w)
  have HLT := Aside0.mk hrt
  clear hrt
  have H : ((laws_big.f l0).bind fun t202 => (if t202 = true then (some true) else ((spec_DrawPlaces.f k l0).bind fun t203 => ((spec_DrawHex.f k l0).bind fun t206 => ((some (([t206, (⟨#[116, 119, 111]⟩ : ByteArray), (⟨#[116, 104, 114, 101, 101, 32, 97, 110, 100, 32, 109, 111, 114, 101]⟩ : ByteArray)] : List ByteArray) : List ByteArray)).bind fun y207 => (if 0 < (y207.length : Int) then (if ((rdOf ByteArray.empty y207 0).size : Int) = 0 then (laws_FnFrames.j0 k t203 y207 true) else (laws_FnFrames.j0 k t203 y207 (decide (((rdOf ByteArray.empty y207 0).size : Int) > 900)))) else (none))))))) = some r := h
  clear h
  replace H := Option.bind_eq_some_iff.mp H
  obtain ⟨t202, A20, H⟩ := H
  replace H : (if t202 = true then (some true) else ((spec_DrawPlaces.f k l0).bind fun t203 => ((spec_DrawHex.f k l0).bind fun t206 => ((some (([t206, (⟨#[116, 119, 111]⟩ : ByteArray), (⟨#[116, 104, 114, 101, 101, 32, 97, 110, 100, 32, 109, 111, 114, 101]⟩ : ByteArray)] : List ByteArray) : List ByteArray)).bind fun y207 => (if 0 < (y207.length : Int) then (if ((rdOf ByteArray.empty y207 0).size : Int) = 0 then (laws_FnFrames.j0 k t203 y207 true) else (laws_FnFrames.j0 k t203 y207 (decide (((rdOf ByteArray.empty y207 0).size : Int) > 900)))) else (none)))))) = some r := H
  have A2 := Aside0.mk A20
  clear A20
  by_cases c3 : t202 = true
  · subst c3
    have H1 : (some true) = some r := by rw [if_pos rfl] at H; exact H
    clear H
    have H := H1
    clear H1
    obtain rfl := Option.some.inj H
    go_enter Try.func6, Try.ntmps6
    go_wp2_with (first | ((with_reducible refine gate_callee (f := 15) rfl ?_); refine goesL_ (some 17) rfl rfl Try.func15 (by kernel_rfl) rfl #[.slice A0 l0.length c0] rfl (by (try simp only [List.map_toArray, List.map_cons, List.map_nil]); first | done | rfl | (simp only [List.length_drop, List.length_take]; rfl)) ?_; (with_reducible refine (laws_big.calls _ _ l0 true _ ?side1 ?side2 A2.out).mono ?_); (case side1 => repeat (first | exact HR0.out | (with_reducible refine Kd.C_alloc ?_ _) | (with_reducible refine Kd.C_drewN ?_ _) | (with_reducible refine Kd.C_drew ?_))); (case side2 => exact HC0.out); rintro e w' ⟨rfl, ⟨nd, rfl⟩⟩; refine ⟨_, rfl, ?_⟩))
    go_ret
    exact ⟨by first | rfl | (simp [errW_none, errW_some] <;> rfl) | (simp [*, errW_none, errW_some] <;> rfl), by repeat (first | (with_reducible first | exact HB.out | apply below_alloc | apply pw_below_drewN | apply below_drew1) | exact HB.out)⟩
  · replace c3 := Bool.eq_false_iff.mpr c3
    subst c3
    have H1 : ((spec_DrawPlaces.f k l0).bind fun t203 => ((spec_DrawHex.f k l0).bind fun t206 => ((some (([t206, (⟨#[116, 119, 111]⟩ : ByteArray), (⟨#[116, 104, 114, 101, 101, 32, 97, 110, 100, 32, 109, 111, 114, 101]⟩ : ByteArray)] : List ByteArray) : List ByteArray)).bind fun y207 => (if 0 < (y207.length : Int) then (if ((rdOf ByteArray.empty y207 0).size : Int) = 0 then (laws_FnFrames.j0 k t203 y207 true) else (laws_FnFrames.j0 k t203 y207 (decide (((rdOf ByteArray.empty y207 0).size : Int) > 900)))) else (none))))) = some r := by rw [if_neg (show ¬ (false = true) by decide)] at H; exact H
    clear H
    have H := H1
    clear H1
    replace H := Option.bind_eq_some_iff.mp H
    obtain ⟨t203, A40, H⟩ := H
    replace H : ((spec_DrawHex.f k l0).bind fun t206 => ((some (([t206, (⟨#[116, 119, 111]⟩ : ByteArray), (⟨#[116, 104, 114, 101, 101, 32, 97, 110, 100, 32, 109, 111, 114, 101]⟩ : ByteArray)] : List ByteArray) : List ByteArray)).bind fun y207 => (if 0 < (y207.length : Int) then (if ((rdOf ByteArray.empty y207 0).size : Int) = 0 then (laws_FnFrames.j0 k t203 y207 true) else (laws_FnFrames.j0 k t203 y207 (decide (((rdOf ByteArray.empty y207 0).size : Int) > 900)))) else (none)))) = some r := H
    have A4 := Aside0.mk A40
    clear A40
    replace H := Option.bind_eq_some_iff.mp H
    obtain ⟨t206, A50, H⟩ := H
    replace H : ((some (([t206, (⟨#[116, 119, 111]⟩ : ByteArray), (⟨#[116, 104, 114, 101, 101, 32, 97, 110, 100, 32, 109, 111, 114, 101]⟩ : ByteArray)] : List ByteArray) : List ByteArray)).bind fun y207 => (if 0 < (y207.length : Int) then (if ((rdOf ByteArray.empty y207 0).size : Int) = 0 then (laws_FnFrames.j0 k t203 y207 true) else (laws_FnFrames.j0 k t203 y207 (decide (((rdOf ByteArray.empty y207 0).size : Int) > 900)))) else (none))) = some r := H
    have A5 := Aside0.mk A50
    clear A50
    obtain ⟨y207, hy207⟩ : ∃ y_ : List ByteArray, y_ = (([t206, (⟨#[116, 119, 111]⟩ : ByteArray), (⟨#[116, 104, 114, 101, 101, 32, 97, 110, 100, 32, 109, 111, 114, 101]⟩ : ByteArray)] : List ByteArray)) := ⟨_, rfl⟩
    replace H : (if 0 < (y207.length : Int) then (if ((rdOf ByteArray.empty y207 0).size : Int) = 0 then (laws_FnFrames.j0 k t203 y207 true) else (laws_FnFrames.j0 k t203 y207 (decide (((rdOf ByteArray.empty y207 0).size : Int) > 900)))) else (none)) = some r := by first | (rw [hy207]; with_reducible exact H) | (have H2_ := (Option.bind_some _ _).symm.trans H; rw [hy207]; with_reducible exact H2_) | (have H2_ := (Option.bind_some _ _).symm.trans H; with_reducible exact H2_) | with_reducible exact H | (rw [hy207]; exact H) | exact H
    have Ny207 := Aside0.mk hy207
    clear hy207
    have HC6 := Aside0.mk H
    clear H
    go_enter Try.func6, Try.ntmps6
    go_upto_region 5 with (first | ((with_reducible refine gate_callee (f := 15) rfl ?_); refine goesL_ (some 17) rfl rfl Try.func15 (by kernel_rfl) rfl #[.slice A0 l0.length c0] rfl (by (try simp only [List.map_toArray, List.map_cons, List.map_nil]); first | done | rfl | (simp only [List.length_drop, List.length_take]; rfl)) ?_; (with_reducible refine (laws_big.calls _ _ l0 false _ ?side1 ?side2 A2.out).mono ?_); (case side1 => repeat (first | exact HR0.out | (with_reducible refine Kd.C_alloc ?_ _) | (with_reducible refine Kd.C_drewN ?_ _) | (with_reducible refine Kd.C_drew ?_))); (case side2 => exact HC0.out); rintro e w' ⟨rfl, ⟨nd, rfl⟩⟩; refine ⟨_, rfl, ?_⟩) | ((with_reducible refine gate_callee (f := 17) rfl ?_); refine goesL_ (some 19) rfl rfl Try.func17 (by kernel_rfl) rfl #[.slice A0 l0.length c0] rfl (by (try simp only [List.map_toArray, List.map_cons, List.map_nil]); first | done | rfl | (simp only [List.length_drop, List.length_take]; rfl)) ?_; (with_reducible refine (spec_DrawPlaces.calls k _ _ l0 t203 _ ?side1 ?side2 A4.out).mono ?_); (case side1 => repeat (first | exact HR0.out | (with_reducible refine Kd.C_alloc ?_ _) | (with_reducible refine Kd.C_drewN ?_ _) | (with_reducible refine Kd.C_drew ?_))); (case side2 => exact HC0.out); rintro e w7 ⟨v204, rfl, ho0, hb⟩; refine ⟨_, rfl, ?_⟩; have n0_ := Aside0.mk (Kd.R_lower ho0 (below_size (by repeat (first | (with_reducible first | exact HB.out | apply below_alloc | apply pw_below_drewN | apply below_drew1) | exact HB.out)))); have n1_ := Aside0.mk (below_step (by repeat (first | (with_reducible first | exact HB.out | apply below_alloc | apply pw_below_drewN | apply below_drew1) | exact HB.out)) hb); clear HB; have HO205 := n0_; have HB := n1_; clear n0_ n1_; (try clear hb); (try clear hb2); (try clear hk); (try clear hi); (try clear ho0)) | ((with_reducible refine gate_callee (f := 34) rfl ?_); refine goesL_ (some 21) rfl rfl Try.func34 (by kernel_rfl) rfl #[.slice A0 l0.length c0] rfl (by (try simp only [List.map_toArray, List.map_cons, List.map_nil]); first | done | rfl | (simp only [List.length_drop, List.length_take]; rfl)) ?_; (with_reducible refine (spec_DrawHex.calls k _ _ l0 t206 _ ?side1 ?side2 A5.out).mono ?_); (case side1 => repeat (first | exact (Kd.C_below HR0.out HB.out) | (with_reducible refine Kd.C_alloc ?_ _) | (with_reducible refine Kd.C_drewN ?_ _) | (with_reducible refine Kd.C_drew ?_))); (case side2 => exact HC0.out); rintro e w8 ⟨rfl, hb⟩; refine ⟨_, rfl, ?_⟩; have n0_ := Aside0.mk (Kd.R_below (by (with_reducible repeat (first | apply Kd.R_alloc | apply Kd.R_drewN | apply Kd.R_drew)); exact HO205.out) hb); have n1_ := Aside0.mk (below_step (by repeat (first | (with_reducible first | exact HB.out | apply below_alloc | apply pw_below_drewN | apply below_drew1) | exact HB.out)) hb); clear HO205; clear HB; have HO205 := n0_; have HB := n1_; clear n0_ n1_; (try clear hb); (try clear hb2); (try clear hk); (try clear hi)) | ((with_reducible refine gate_dst (N := 22) rfl ?_); (try (refine gate_guard (by rfl) ?_; dsimp only)); refine Kd.R_lit Kd.string _ 9 ?hg (N := 22) ?hd (xs := ([t206, (⟨#[116, 119, 111]⟩ : ByteArray), (⟨#[116, 104, 114, 101, 101, 32, 97, 110, 100, 32, 109, 111, 114, 101]⟩ : ByteArray)] : List ByteArray)) (inner := [.string t206, .string (⟨#[116, 119, 111]⟩ : ByteArray), .string (⟨#[116, 104, 114, 101, 101, 32, 97, 110, 100, 32, 109, 111, 114, 101]⟩ : ByteArray)]) (ok := fun _ => True) (okp := fun _ => True) ?hr ?hp (fun _ hk => hk) trivial (Below.refl _ _) (Nat.le_refl _) (by simp) ?_; (case hd => rfl); (case hg => rfl); (case hr => first | (go_simp; done) | (go_simp; rfl)); (case hp => exact (Reps.one (show Kd.M Kd.string _ _ _ t206 [.string t206] from rfl) (Reps.one (show Kd.M Kd.string _ _ _ (⟨#[116, 119, 111]⟩ : ByteArray) [.string (⟨#[116, 119, 111]⟩ : ByteArray)] from rfl) (Reps.one (show Kd.M Kd.string _ _ _ (⟨#[116, 104, 114, 101, 101, 32, 97, 110, 100, 32, 109, 111, 114, 101]⟩ : ByteArray) [.string (⟨#[116, 104, 114, 101, 101, 32, 97, 110, 100, 32, 109, 111, 114, 101]⟩ : ByteArray)] from rfl) (Reps.none _ _))))); intro v208 w9 ho10 hb hg_ hnew_; clear hg_ hnew_; (first | rw [← Ny207.out] at ho10 | (simp only [Int.reduceToNat] at ho10; rw [← Ny207.out] at ho10)); have n0_ := Aside0.mk (Kd.R_below (by (with_reducible repeat (first | apply Kd.R_alloc | apply Kd.R_drewN | apply Kd.R_drew)); exact HO205.out) hb); have n1_ := Aside0.mk (Kd.R_lower ho10 (below_size (by repeat (first | (with_reducible first | exact HB.out | apply below_alloc | apply pw_below_drewN | apply below_drew1) | exact HB.out)))); have n2_ := Aside0.mk (below_step (by repeat (first | (with_reducible first | exact HB.out | apply below_alloc | apply pw_below_drewN | apply below_drew1) | exact HB.out)) hb); clear HO205; clear HB; have HO205 := n0_; have HO209 := n1_; have HB := n2_; clear n0_ n1_ n2_; clear hb ho10))
    (try simp only [Act.put, List.setIfInBounds_toArray, List.set_cons_zero, List.set_cons_succ])
    go_cut [34] (fun v34 wc => ∃ (kq : Nat) (x34_5 : Bool), v34 = .bool x34_5 ∧ Aside0 (laws_FnFrames.j0 kq t203 y207 x34_5 = some r) ∧ Aside0 (kq ≤ k) ∧ Aside0 (Kd.R (Kd.int .i64) 3 wc w.heap.size (fun _ => True) v204 t203) ∧ Aside0 (Kd.R Kd.string 9 wc w.heap.size (fun _ => True) v208 y207) ∧ Aside0 (Below w.heap.size w wc))
    case first =>
      have H := HC6.out
      clear HC6
      by_cases c11 : 0 < (y207.length : Int)
      · rw [if_pos c11] at H
        have c11b0 : decide (0 < (y207.length : Int)) = true := decide_eq_true c11
        have c11b1 : decide (0 < y207.length) = true := decide_eq_true (by omega)
        clear c11
        (first | rw [c11b0] | (simp only [i64_w, i32_w]; rw [c11b0]) | skip)
        by_cases c12 : ((rdOf ByteArray.empty y207 0).size : Int) = 0
        · rw [if_pos c12] at H
          have c12b0 : (((rdOf ByteArray.empty y207 0).size : Int) == 0) = true := beq_iff_eq.mpr c12
          have c12b1 : (((rdOf ByteArray.empty y207 0).size : Int) != 0) = false := bne_eq_false_iff_eq.mpr c12
          clear c12
          have H' := Aside0.mk H
          clear H
          obtain ⟨Ao13, co13, eo13⟩ := Kd.R_slice HO209.out
          subst eo13
          have p210 : 0 ≤ (0 : Int) := (by omega)
          have q210 : 0 < (y207.length : Int) := of_decide_eq_true (by first | (with_reducible assumption) | assumption)
          obtain ⟨ad210, e210, hx210_0⟩ := Kd.at_string (Kd.R_reads' HO209.out).2.2 0 p210 q210
          cases e210
          have qi210 : (0 < y207.length) = True := eq_true (by omega)
          (try rw [show ((0 : Int)).toNat = 0 from rfl] at hx210_0)
          (try rw [Addr.add_zero'] at hx210_0)
          replace p210 := eq_true p210
          replace q210 := eq_true q210
          go_wp2
          go_meet
          case rel => exact ⟨_, (true), (by first | rfl | (simp; done) | (simp [*]; done)), H', ⟨by first | omega | exact Nat.le_refl _⟩, ⟨by (with_reducible repeat (first | apply Kd.R_alloc | apply Kd.R_drewN | apply Kd.R_drew)); exact HO205.out⟩, ⟨by (with_reducible repeat (first | apply Kd.R_alloc | apply Kd.R_drewN | apply Kd.R_drew)); exact HO209.out⟩, ⟨by repeat (first | (with_reducible first | exact HB.out | apply below_alloc | apply pw_below_drewN | apply below_drew1) | exact HB.out)⟩⟩
        · rw [if_neg c12] at H
          have c12b0 : (((rdOf ByteArray.empty y207 0).size : Int) == 0) = false := beq_eq_false_iff_ne.mpr c12
          have c12b1 : (((rdOf ByteArray.empty y207 0).size : Int) != 0) = true := bne_iff_ne.mpr c12
          have H' := Aside0.mk H
          clear H
          obtain ⟨Ao14, co14, eo14⟩ := Kd.R_slice HO209.out
          subst eo14
          have p210 : 0 ≤ (0 : Int) := (by omega)
          have q210 : 0 < (y207.length : Int) := of_decide_eq_true (by first | (with_reducible assumption) | assumption)
          obtain ⟨ad210, e210, hx210_0⟩ := Kd.at_string (Kd.R_reads' HO209.out).2.2 0 p210 q210
          cases e210
          have qi210 : (0 < y207.length) = True := eq_true (by omega)
          (try rw [show ((0 : Int)).toNat = 0 from rfl] at hx210_0)
          (try rw [Addr.add_zero'] at hx210_0)
          replace p210 := eq_true p210
          replace q210 := eq_true q210
          have p211 : 0 ≤ (0 : Int) := (by omega)
          have q211 : 0 < (y207.length : Int) := of_decide_eq_true (by first | (with_reducible assumption) | assumption)
          obtain ⟨ad211, e211, hx211_0⟩ := Kd.at_string (Kd.R_reads' HO209.out).2.2 0 p211 q211
          obtain rfl : ad210 = ad211 := (by injection e211)
          have qi211 : (0 < y207.length) = True := eq_true (by omega)
          (try rw [show ((0 : Int)).toNat = 0 from rfl] at hx211_0)
          (try rw [Addr.add_zero'] at hx211_0)
          replace p211 := eq_true p211
          replace q211 := eq_true q211
          go_wp2
          go_meet
          case rel => exact ⟨_, (decide (((rdOf ByteArray.empty y207 0).size : Int) > 900)), (by first | rfl | (simp; done) | (simp [*]; done)), H', ⟨by first | omega | exact Nat.le_refl _⟩, ⟨by (with_reducible repeat (first | apply Kd.R_alloc | apply Kd.R_drewN | apply Kd.R_drew)); exact HO205.out⟩, ⟨by (with_reducible repeat (first | apply Kd.R_alloc | apply Kd.R_drewN | apply Kd.R_drew)); exact HO209.out⟩, ⟨by repeat (first | (with_reducible first | exact HB.out | apply below_alloc | apply pw_below_drewN | apply below_drew1) | exact HB.out)⟩⟩
      · rw [if_neg c11] at H
        exact absurd H (by simp)
    case rest =>
      clear HC6
      try clear c1
      try clear p2
      try clear q2
      try clear hx2
      try clear qi2
      try clear c3
      try clear c6
      try clear c11
      try clear c11b0
      try clear c11b1
      try clear c12
      try clear c12b0
      try clear c12b1
      try clear hx210_0
      try clear hx211_0
      try clear p210
      try clear p211
      try clear q210
      try clear q211
      obtain ⟨kq, x34_5, rfl, HA, HJ5, HO_3, HO_4, HB⟩ := hcut
      cases kq with
      | zero => exact absurd HA.out (by simp [laws_FnFrames.j0])
      | succ kj5 =>
        have H := HA.out
        clear HA
        simp only [laws_FnFrames.j0] at H
        have HC15 := Aside0.mk H
        clear H
        go_upto_if 34 with (fail)
        go_cut [] (fun wc => ∃ (kq : Nat) (x4_14 : List ByteArray), Aside0 (laws_FnFrames.j1 kq t203 x4_14 = some r) ∧ Aside0 (kq ≤ kj5) ∧ Aside0 (Kd.R (Kd.int .i64) 3 wc w.heap.size (fun _ => True) v204 t203) ∧ Aside0 (Kd.R Kd.string 9 wc w.heap.size (fun _ => True) v208 x4_14) ∧ Aside0 (Below w.heap.size w wc))
        case first =>
          have H := HC15.out
          clear HC15
          by_cases c16 : x34_5 = true
          · subst c16
            have H1 : (if 0 < (y207.length : Int) then (laws_FnFrames.j1 kj5 t203 (y207.set (0 : Int).toNat (⟨#[111, 110, 101]⟩ : ByteArray))) else (none)) = some r := by rw [if_pos rfl] at H; exact H
            clear H
            have H := H1
            clear H1
            by_cases c17 : 0 < (y207.length : Int)
            · rw [if_pos c17] at H
              have c17b0 : decide (0 < (y207.length : Int)) = true := decide_eq_true c17
              have c17b1 : decide (0 < y207.length) = true := decide_eq_true (by omega)
              clear c17
              (first | rw [c17b0] | (simp only [i64_w, i32_w]; rw [c17b0]) | skip)
              obtain ⟨y212, hy212⟩ : ∃ y_ : List ByteArray, y_ = (y207.set (0 : Int).toNat (⟨#[111, 110, 101]⟩ : ByteArray)) := ⟨_, rfl⟩
              replace H : (laws_FnFrames.j1 kj5 t203 y212) = some r := by first | (rw [hy212]; with_reducible exact H) | (have H2_ := (Option.bind_some _ _).symm.trans H; rw [hy212]; with_reducible exact H2_) | (have H2_ := (Option.bind_some _ _).symm.trans H; with_reducible exact H2_) | with_reducible exact H | (rw [hy212]; exact H) | exact H
              have Ny212 := Aside0.mk hy212
              clear hy212
              have H' := Aside0.mk H
              clear H
              have p18 : 0 ≤ (0 : Int) := (by omega)
              have q18 : (0 : Int) < ((y207.length : Int) : Int) := of_decide_eq_true (by first | (with_reducible assumption) | assumption)
              have qi18 : (0 < y207.length) = True := eq_true (by omega)
              obtain ⟨go18, co18, eo18, gb18, gl18, cl18, HG18⟩ := Kd.R_form HO_4.out (by omega)
              (first | cases eo18 | (injection eo18 with ea_ en_ ec_; (first | subst ea_ | (injection ea_ with ea_; subst ea_)); subst ec_; clear en_))
              have GB18 := Aside0.mk gb18
              have GG18 := Aside0.mk HG18
              clear gb18 gl18 HG18
              obtain ⟨hx18_0, hf18_0⟩ := Kd.R_celln (⟨#[]⟩ : ByteArray) HO_4.out (0 : Int) p18 q18
              (try rw [show ((0 : Int)).toNat = 0 from rfl] at hx18_0)
              (try simp only [Nat.reduceMul, Nat.zero_mul, Nat.zero_add, Nat.reduceAdd] at hx18_0)
              (try rw [show ((0 : Int)).toNat = 0 from rfl] at hf18_0)
              (try simp only [Nat.reduceMul, Nat.zero_mul, Nat.zero_add, Nat.reduceAdd] at hf18_0)
              replace p18 := eq_true p18
              replace q18 := eq_true q18
              have HP19 := Kd.R_putg HO_4.out (0 : Int) (⟨#[111, 110, 101]⟩ : ByteArray)
              go_wp2_with (first | ((with_reducible refine gate_store (t := 9) (p := 36) rfl ?_); refine store_event (t := 9) (p := 36) (v := ?vo_w20) (w1 := (wc.setCell ⟨go18, (0 : Int).toNat, none⟩ (.string (⟨#[111, 110, 101]⟩ : ByteArray)))) ?hg ?ho ?hn ?hr ?_; (case ho => rfl); (case hg => rfl); (case hn => rfl); (case hr => first | (go_simp; done) | (go_simp; rfl)); intro w20 hw; have hg : wc.grownBy w20 (some go18) := (by rw [hw]; exact HP19.2); have hp_ : Kd.R Kd.string 9 w20 w.heap.size (fun _ => True) (.slice (some ⟨go18, 0, none⟩) y207.length co18) y212 := (by rw [hw, Ny212.out]; exact HP19.1); clear HP19; have n0_ := Aside0.mk (Kd.R_over' (v := (.slice (some ⟨go18, 0, none⟩) y207.length co18)) (by (with_reducible repeat (first | apply Kd.R_alloc | apply Kd.R_drewN | apply Kd.R_drew)); exact HO_3.out) (Kd.R_typed HO_4.out) (by decide) hg); have n1_ := Aside0.mk (hp_); have n2_ := Aside0.mk ((by rw [hw]; exact below_set (HB.out) GB18.out : Below w.heap.size w w20)); clear HO_3; clear HO_4; clear HB; have HO_3 := n0_; have HO_4 := n1_; have HB := n2_; clear n0_ n1_ n2_; clear hg hw hp_))
              go_meet
              case rel => exact ⟨_, (y212), H', ⟨by have := HJ5.out; first | omega | exact Nat.le_refl _⟩, ⟨by (with_reducible repeat (first | apply Kd.R_alloc | apply Kd.R_drewN | apply Kd.R_drew)); exact HO_3.out⟩, ⟨by (with_reducible repeat (first | apply Kd.R_alloc | apply Kd.R_drewN | apply Kd.R_drew)); exact HO_4.out⟩, ⟨by repeat (first | (with_reducible first | exact HB.out | apply below_alloc | apply pw_below_drewN | apply below_drew1) | exact HB.out)⟩⟩
            · rw [if_neg c17] at H
              exact absurd H (by simp)
          · replace c16 := Bool.eq_false_iff.mpr c16
            subst c16
            have H1 : (laws_FnFrames.j1 kj5 t203 y207) = some r := by rw [if_neg (show ¬ (false = true) by decide)] at H; exact H
            clear H
            have H := H1
            clear H1
            have H' := Aside0.mk H
            clear H
            go_wp2
            go_meet
            case rel => exact ⟨_, (y207), H', ⟨by have := HJ5.out; first | omega | exact Nat.le_refl _⟩, ⟨by (with_reducible repeat (first | apply Kd.R_alloc | apply Kd.R_drewN | apply Kd.R_drew)); exact HO_3.out⟩, ⟨by (with_reducible repeat (first | apply Kd.R_alloc | apply Kd.R_drewN | apply Kd.R_drew)); exact HO_4.out⟩, ⟨by repeat (first | (with_reducible first | exact HB.out | apply below_alloc | apply pw_below_drewN | apply below_drew1) | exact HB.out)⟩⟩
        case rest =>
          clear HC15
          try clear c1
          try clear p1
          try clear q1
          try clear hx1
          try clear qi1
          try clear hf1
          try clear p2
          try clear q2
          try clear hx2
          try clear qi2
          try clear c3
          try clear c6
          try clear c11
          try clear c11b0
          try clear c11b1
          try clear c12
          try clear c12b0
          try clear c12b1
          try clear c15
          try clear c16
          try clear c17
          try clear c17b0
          try clear c17b1
          try clear p18
          try clear q18
          try clear hx18
          try clear qi18
          try clear hf18
          try clear hx18_0
          try clear hx210_0
          try clear hx211_0
          try clear p18
          try clear p2
          try clear p210
          try clear p211
          try clear q18
          try clear q2
          try clear q210
          try clear q211
          obtain ⟨kq, x4_14, HA, HJ14, HO_3, HO_4, HB⟩ := hcut
          cases kq with
          | zero => exact absurd HA.out (by simp [laws_FnFrames.j1])
          | succ kj14 =>
            have H := HA.out
            clear HA
            simp only [laws_FnFrames.j1] at H
            obtain ⟨y213, hy213⟩ : ∃ y_ : List Int, y_ = (([0] : List Int)) := ⟨_, rfl⟩
            replace H : (laws_FnFrames.l0 kj14 t203 x4_14 (⟨#[]⟩ : ByteArray) y213 0) = some r := by first | (rw [hy213]; with_reducible exact H) | (have H2_ := (Option.bind_some _ _).symm.trans H; rw [hy213]; with_reducible exact H2_) | (have H2_ := (Option.bind_some _ _).symm.trans H; with_reducible exact H2_) | with_reducible exact H | (rw [hy213]; exact H) | exact H
            have Ny213 := Aside0.mk hy213
            clear hy213
            have H' := Aside0.mk H
            clear H
            go_wp2_with (first | ((with_reducible refine gate_dst (N := 37) rfl ?_); (try (refine gate_guard (by rfl) ?_; dsimp only)); refine Kd.R_lit (Kd.int .i64) _ 3 ?hg (N := 37) ?hd (xs := ([0] : List Int)) (inner := [.int .i64 0]) (ok := fun _ => True) (okp := fun _ => True) ?hr ?hp (fun _ hk => hk) trivial (Below.refl _ _) (Nat.le_refl _) (by simp) ?_; (case hd => rfl); (case hg => rfl); (case hr => first | (go_simp; done) | (go_simp; rfl)); (case hp => exact (Reps.one (show Kd.M (Kd.int .i64) _ _ _ 0 [.int .i64 0] from rfl) (Reps.none _ _))); intro v214 w21 ho22 hb hg_ hnew_; clear hg_ hnew_; (first | rw [← Ny213.out] at ho22 | (simp only [Int.reduceToNat] at ho22; rw [← Ny213.out] at ho22)); have n0_ := Aside0.mk (Kd.R_elder' (by (with_reducible repeat (first | apply Kd.R_alloc | apply Kd.R_drewN | apply Kd.R_drew)); exact HO_3.out) (Kd.R_base ho22) hb); have n1_ := Aside0.mk (Kd.R_below (by (with_reducible repeat (first | apply Kd.R_alloc | apply Kd.R_drewN | apply Kd.R_drew)); exact HO_4.out) hb); have n2_ := Aside0.mk (Kd.R_lower (Kd.R_new' ho22 (Kd.R_lt (by (with_reducible repeat (first | apply Kd.R_alloc | apply Kd.R_drewN | apply Kd.R_drew)); exact HO_3.out))) (below_size (by repeat (first | (with_reducible first | exact HB.out | apply below_alloc | apply pw_below_drewN | apply below_drew1) | exact HB.out)))); have n3_ := Aside0.mk (below_step (by repeat (first | (with_reducible first | exact HB.out | apply below_alloc | apply pw_below_drewN | apply below_drew1) | exact HB.out)) hb); clear HO_3; clear HO_4; clear HB; have HO_3 := n0_; have HO_4 := n1_; have HO215 := n2_; have HB := n3_; clear n0_ n1_ n2_ n3_; clear hb ho22))
            go_loopg [5, 6, 7] kj14 (fun kq v5 v6 v7 w' => ∃ (x5_3 : ByteArray) (x6_3 : List Int) (x7_3 : Int), v5 = .string x5_3 ∧ v7 = .int .i64 x7_3 ∧ Aside0 (laws_FnFrames.l0 kq t203 x4_14 x5_3 x6_3 x7_3 = some r) ∧ Aside0 (kq ≤ kj14) ∧ Aside0 (Kd.R (Kd.int .i64) 3 w' w.heap.size (fun k_ => some k_ ≠ (v6 : Value).ownBlock) v204 t203) ∧ Aside0 (Kd.R Kd.string 9 w' w.heap.size (fun _ => True) v208 x4_14) ∧ Aside0 (Kd.R (Kd.int .i64) 3 w' w.heap.size (fun k_ => some k_ ≠ (v204 : Value).ownBlock) v6 x6_3) ∧ Aside0 (Below w.heap.size w w'))
            case atStart => exact ⟨((⟨#[]⟩ : ByteArray)), (y213), (0), (by first | rfl | (simp; done) | (simp [*]; done)), (by first | rfl | (simp; done) | (simp [*]; done)), H', ⟨Nat.le_refl _⟩, ⟨by (with_reducible repeat (first | apply Kd.R_alloc | apply Kd.R_drewN | apply Kd.R_drew)); exact Kd.R_mono HO_3.out (fun _ hk => hk.2)⟩, ⟨by (with_reducible repeat (first | apply Kd.R_alloc | apply Kd.R_drewN | apply Kd.R_drew)); exact HO_4.out⟩, ⟨by (with_reducible repeat (first | apply Kd.R_alloc | apply Kd.R_drewN | apply Kd.R_drew)); exact Kd.R_mono HO215.out (fun _ hk => hk.2)⟩, ⟨by repeat (first | (with_reducible first | exact HB.out | apply below_alloc | apply pw_below_drewN | apply below_drew1) | exact HB.out)⟩⟩
            case round =>
              clear H'
              try clear c1
              try clear p1
              try clear q1
              try clear hx1
              try clear qi1
              try clear hf1
              try clear p2
              try clear q2
              try clear hx2
              try clear qi2
              try clear c3
              try clear c6
              try clear c11
              try clear c11b0
              try clear c11b1
              try clear c12
              try clear c12b0
              try clear c12b1
              try clear c15
              try clear c16
              try clear c17
              try clear c17b0
              try clear c17b1
              try clear p18
              try clear q18
              try clear hx18
              try clear qi18
              try clear hf18
              try clear p21
              try clear q21
              try clear hx21
              try clear qi21
              try clear hx18_0
              try clear hx210_0
              try clear hx211_0
              try clear p1
              try clear p18
              try clear p2
              try clear p210
              try clear p211
              try clear q1
              try clear q18
              try clear q2
              try clear q210
              try clear q211
              obtain ⟨x5_3, x6_3, x7_3, rfl, rfl, HA, HK3, HO_3, HO_4, HO_6, HB⟩ := hrel
              cases gk with
              | zero => exact absurd HA.out (by simp [laws_FnFrames.l0])
              | succ k3 =>
                have H := HA.out
                clear HA
                simp only [laws_FnFrames.l0] at H
                by_cases c23 : x7_3 < (x4_14.length : Int)
                · rw [if_pos c23] at H
                  have c23b0 : decide (x7_3 < (x4_14.length : Int)) = true := decide_eq_true c23
                  have c23b1 : decide ((x4_14.length : Int) ≤ x7_3) = false := decide_eq_false (by omega)
                  clear c23
                  by_cases c24 : 0 ≤ x7_3
                  · rw [if_pos c24] at H
                    have c24b0 : decide (0 ≤ x7_3) = true := decide_eq_true c24
                    clear c24
                    replace H := Option.bind_eq_some_iff.mp H
                    obtain ⟨⟨t217, t218⟩, A250, H⟩ := H
                    replace H : (if t218 = true then (if x5_3.size + t217.size ≤ 9223372036854775807 then (if x6_3.length < 17592186044416 then (laws_FnFrames.l0 k3 t203 x4_14 (x5_3 ++ t217) (x6_3 ++ [((x5_3 ++ t217).size : Int)]) (wrap64 (x7_3 + 1))) else (none)) else (none)) else (some false)) = some r := H
                    have A25 := Aside0.mk A250
                    clear A250
                    by_cases c26 : t218 = true
                    · subst c26
                      have H1 : (if x5_3.size + t217.size ≤ 9223372036854775807 then (if x6_3.length < 17592186044416 then (laws_FnFrames.l0 k3 t203 x4_14 (x5_3 ++ t217) (x6_3 ++ [((x5_3 ++ t217).size : Int)]) (wrap64 (x7_3 + 1))) else (none)) else (none)) = some r := by rw [if_pos rfl] at H; exact H
                      clear H
                      have H := H1
                      clear H1
                      by_cases c27 : x5_3.size + t217.size ≤ 9223372036854775807
                      · rw [if_pos c27] at H
                        have c27b0 := eq_true c27
                        have c27b1 : decide (x5_3.size + t217.size ≤ 9223372036854775807) = true := decide_eq_true c27
                        try have c27b2 : (9223372036854775807 < x5_3.size + t217.size) = False := eq_false (Nat.not_lt.2 c27)
                        by_cases c28 : x6_3.length < 17592186044416
                        · rw [if_pos c28] at H
                          have LMc28 := Aside0.mk c28
                          clear c28
                          obtain ⟨y219, hy219⟩ : ∃ y_ : List Int, y_ = (x6_3 ++ [((x5_3 ++ t217).size : Int)]) := ⟨_, rfl⟩
                          replace H : (laws_FnFrames.l0 k3 t203 x4_14 (x5_3 ++ t217) y219 (wrap64 (x7_3 + 1))) = some r := by first | (rw [hy219]; with_reducible exact H) | (have H2_ := (Option.bind_some _ _).symm.trans H; rw [hy219]; with_reducible exact H2_) | (have H2_ := (Option.bind_some _ _).symm.trans H; with_reducible exact H2_) | with_reducible exact H | (rw [hy219]; exact H) | exact H
                          have Ny219 := Aside0.mk hy219
                          clear hy219
                          have H' := Aside0.mk H
                          clear H
                          obtain ⟨Ao29, co29, eo29⟩ := Kd.R_slice HO_4.out
                          subst eo29
                          have p216 : 0 ≤ (x7_3 : Int) := of_decide_eq_true (by first | (with_reducible assumption) | assumption)
                          have q216 : x7_3 < (x4_14.length : Int) := of_decide_eq_true (by first | (with_reducible assumption) | assumption)
                          obtain ⟨ad216, e216, hx216_0⟩ := Kd.at_string (Kd.R_reads' HO_4.out).2.2 x7_3 p216 q216
                          cases e216
                          replace p216 := eq_true p216
                          replace q216 := eq_true q216
                          go_wp2_with (first | ((with_reducible refine gate_callee (f := 35) rfl ?_); refine goesL_ (some 49) rfl rfl Try.func35 (by kernel_rfl) rfl #[.string (rdOf ByteArray.empty x4_14 x7_3)] rfl (by (try simp only [List.map_toArray, List.map_cons, List.map_nil]); first | done | rfl | (simp only [List.length_drop, List.length_take]; rfl)) ?_; (with_reducible refine (impl_Frame.calls k3 (rdOf ByteArray.empty x4_14 x7_3) t217 true _ A25.out).mono ?_); rintro e w30 ⟨rfl, hb⟩; refine ⟨_, rfl, ?_⟩; have n0_ := Aside0.mk (Kd.R_below (by (with_reducible repeat (first | apply Kd.R_alloc | apply Kd.R_drewN | apply Kd.R_drew)); exact HO_3.out) hb); have n1_ := Aside0.mk (Kd.R_below (by (with_reducible repeat (first | apply Kd.R_alloc | apply Kd.R_drewN | apply Kd.R_drew)); exact HO_4.out) hb); have n2_ := Aside0.mk (Kd.R_below (by (with_reducible repeat (first | apply Kd.R_alloc | apply Kd.R_drewN | apply Kd.R_drew)); exact HO_6.out) hb); have n3_ := Aside0.mk (below_step (by repeat (first | (with_reducible first | exact HB.out | apply below_alloc | apply pw_below_drewN | apply below_drew1) | exact HB.out)) hb); clear HO_3; clear HO_4; clear HO_6; clear HB; have HO_3 := n0_; have HO_4 := n1_; have HO_6 := n2_; have HB := n3_; clear n0_ n1_ n2_ n3_; (try clear hb); (try clear hb2); (try clear hk); (try clear hi)) | ((with_reducible refine gate_builtin (b := .append) (xs := #[.tmp 57, .tmp 60]) rfl ?_); (try (refine gate_guard (by rfl) ?_; dsimp only)); at_builtin; refine Kd.R_append (Kd.int .i64) (w0 := w) w.heap.size rfl (.tmp 57) (.tmp 60) 25 3 (.int .i64 0) 8 rfl Try.underlying25 info3 rfl (by decide) (by omega) u6 x6_3 ((x5_3.size : Int) + (t217.size : Int)) [.int .i64 ((x5_3.size : Int) + (t217.size : Int))] (fun k_ => some k_ ≠ (v204 : Value).ownBlock) (fun _ => False) rfl rfl ?aP (fun _ hk => hk.elim) ?aF ?aO ?aB ?aS ?aL ?_; (case aP => exact rfl); (case aB => exact (by repeat (first | (with_reducible first | exact HB.out | apply below_alloc | apply pw_below_drewN | apply below_drew1) | exact HB.out))); (case aF => exact (fun k_ hk => Kd.fresh' (Kd.R_lt (by (with_reducible repeat (first | apply Kd.R_alloc | apply Kd.R_drewN | apply Kd.R_drew)); exact HO_3.out)) k_ hk)); (case aO => exact (by (with_reducible repeat (first | apply Kd.R_alloc | apply Kd.R_drewN | apply Kd.R_drew)); exact HO_6.out)); (case aS => exact (below_size (by repeat (first | (with_reducible first | exact HB.out | apply below_alloc | apply pw_below_drewN | apply below_drew1) | exact HB.out)))); (case aL => have := LMc28.out; omega); intro v220 w31 ho hb hg hat; rw [show ((x5_3.size : Int) + (t217.size : Int)) = ((x5_3 ++ t217).size : Int) by rw [ByteArray.size_append]; omega, ← Ny219.out] at ho; have n0_ := Aside0.mk (Kd.R_after (ok := (fun _ => True)) (by (with_reducible repeat (first | apply Kd.R_alloc | apply Kd.R_drewN | apply Kd.R_drew)); exact Kd.R_mono HO_3.out (fun _ hk => ⟨trivial, hk⟩)) hg hat); have n1_ := Aside0.mk (Kd.R_over' (by (with_reducible repeat (first | apply Kd.R_alloc | apply Kd.R_drewN | apply Kd.R_drew)); exact HO_4.out) (Kd.R_typed (by (with_reducible repeat (first | apply Kd.R_alloc | apply Kd.R_drewN | apply Kd.R_drew)); exact HO_6.out)) (by decide) hg); have n2_ := Aside0.mk (hb); have n3_ := Aside0.mk (ho); clear HO_3; clear HO_4; clear HB; clear HO_6; have HO_3 := n0_; have HO_4 := n1_; have HB := n2_; have HO221 := n3_; clear n0_ n1_ n2_ n3_; clear ho hb hg hat))
                          go_roundg k3
                          case measure => have := HJ5.out; have := HJ14.out; have := HK3.out; omega
                          case rel => exact ⟨(x5_3 ++ t217), (y219), (wrap64 (x7_3 + 1)), (by first | rfl | (simp; done) | (simp [*]; done)), (by first | rfl | (simp; done) | (simp [*]; done)), H', ⟨by have := HJ5.out; have := HJ14.out; have := HK3.out; omega⟩, ⟨by (with_reducible repeat (first | apply Kd.R_alloc | apply Kd.R_drewN | apply Kd.R_drew)); exact Kd.R_mono HO_3.out (fun _ hk => hk.2)⟩, ⟨by (with_reducible repeat (first | apply Kd.R_alloc | apply Kd.R_drewN | apply Kd.R_drew)); exact HO_4.out⟩, ⟨by (with_reducible repeat (first | apply Kd.R_alloc | apply Kd.R_drewN | apply Kd.R_drew)); exact HO221.out⟩, ⟨by repeat (first | (with_reducible first | exact HB.out | apply below_alloc | apply pw_below_drewN | apply below_drew1) | exact HB.out)⟩⟩
                        · rw [if_neg c28] at H
                          exact absurd H (by simp)
                      · rw [if_neg c27] at H
                        exact absurd H (by simp)
                    · replace c26 := Bool.eq_false_iff.mpr c26
                      subst c26
                      have H1 : (some false) = some r := by rw [if_neg (show ¬ (false = true) by decide)] at H; exact H
                      clear H
                      have H := H1
                      clear H1
                      exact absurd ((Option.some.inj H).trans HLT.out) (by decide)
                  · rw [if_neg c24] at H
                    exact absurd H (by simp)
                · rw [if_neg c23] at H
                  have c23b0 : decide (x7_3 < (x4_14.length : Int)) = false := decide_eq_false c23
                  have c23b1 : decide ((x4_14.length : Int) ≤ x7_3) = true := decide_eq_true (by omega)
                  clear c23
                  replace H := Option.bind_eq_some_iff.mp H
                  obtain ⟨⟨t222, t223⟩, A320, H⟩ := H
                  replace H : (if t223 = (x5_3.size : Int) then ((laws_sameTexts.f k3 t222 x4_14).bind fun t226 => (laws_FnFrames.j3 k3 t203 x4_14 x5_3 x6_3 (!t226))) else (laws_FnFrames.j3 k3 t203 x4_14 x5_3 x6_3 true)) = some r := H
                  have A32 := Aside0.mk A320
                  clear A320
                  have HC33 := Aside0.mk H
                  clear H
                  obtain ⟨Ao34, co34, eo34⟩ := Kd.R_slice HO_4.out
                  subst eo34
                  go_upto_region 18 with (first | ((with_reducible refine gate_callee (f := 36) rfl ?_); refine goesL_ (some 64) rfl rfl Try.func36 (by kernel_rfl) rfl #[.string x5_3] rfl (by (try simp only [List.map_toArray, List.map_cons, List.map_nil]); first | done | rfl | (simp only [List.length_drop, List.length_take]; rfl)) ?_; (with_reducible refine (impl_Unframe.calls k3 x5_3 t222 t223 _ A32.out).mono ?_); rintro e w35 ⟨v224, rfl, ho0, hb⟩; refine ⟨_, rfl, ?_⟩; have n0_ := Aside0.mk (Kd.R_below (by (with_reducible repeat (first | apply Kd.R_alloc | apply Kd.R_drewN | apply Kd.R_drew)); exact HO_3.out) hb); have n1_ := Aside0.mk (Kd.R_elder' (by (with_reducible repeat (first | apply Kd.R_alloc | apply Kd.R_drewN | apply Kd.R_drew)); exact HO_4.out) (Kd.R_base ho0) hb); have n2_ := Aside0.mk (Kd.R_below (by (with_reducible repeat (first | apply Kd.R_alloc | apply Kd.R_drewN | apply Kd.R_drew)); exact HO_6.out) hb); have n3_ := Aside0.mk (Kd.R_lower (Kd.R_new' ho0 (Kd.R_lt (by (with_reducible repeat (first | apply Kd.R_alloc | apply Kd.R_drewN | apply Kd.R_drew)); exact HO_4.out))) (below_size (by repeat (first | (with_reducible first | exact HB.out | apply below_alloc | apply pw_below_drewN | apply below_drew1) | exact HB.out)))); have n4_ := Aside0.mk (below_step (by repeat (first | (with_reducible first | exact HB.out | apply below_alloc | apply pw_below_drewN | apply below_drew1) | exact HB.out)) hb); clear HO_3; clear HO_4; clear HO_6; clear HB; have HO_3 := n0_; have HO_4 := n1_; have HO_6 := n2_; have HO225 := n3_; have HB := n4_; clear n0_ n1_ n2_ n3_ n4_; (try clear hb); (try clear hb2); (try clear hk); (try clear hi); (try clear ho0)))
                  (try simp only [Act.put, List.setIfInBounds_toArray, List.set_cons_zero, List.set_cons_succ])
                  go_cut [76] (fun v76 wc => ∃ (kq : Nat) (x76_32 : Bool), v76 = .bool x76_32 ∧ Aside0 (laws_FnFrames.j3 kq t203 x4_14 x5_3 x6_3 x76_32 = some r) ∧ Aside0 (kq ≤ k3) ∧ Aside0 (Kd.R (Kd.int .i64) 3 wc w.heap.size (fun k_ => some k_ ≠ (u6 : Value).ownBlock) v204 t203) ∧ Aside0 (Kd.R Kd.string 9 wc w.heap.size (fun _ => True) (.slice Ao34 x4_14.length co34) x4_14) ∧ Aside0 (Kd.R (Kd.int .i64) 3 wc w.heap.size (fun k_ => some k_ ≠ (v204 : Value).ownBlock) u6 x6_3) ∧ Aside0 (Below w.heap.size w wc))
                  case first =>
                    have H := HC33.out
                    clear HC33
                    by_cases c36 : t223 = (x5_3.size : Int)
                    · rw [if_pos c36] at H
                      have c36b0 : (t223 == (x5_3.size : Int)) = true := beq_iff_eq.mpr c36
                      have c36b1 : (t223 != (x5_3.size : Int)) = false := bne_eq_false_iff_eq.mpr c36
                      clear c36
                      (first | rw [c36b0] | (simp only [i64_w, i32_w]; rw [c36b0]) | skip)
                      replace H := Option.bind_eq_some_iff.mp H
                      obtain ⟨t226, A370, H⟩ := H
                      replace H : (laws_FnFrames.j3 k3 t203 x4_14 x5_3 x6_3 (!t226)) = some r := H
                      have A37 := Aside0.mk A370
                      clear A370
                      have H' := Aside0.mk H
                      clear H
                      obtain ⟨Ao38, co38, eo38⟩ := Kd.R_slice HO225.out
                      subst eo38
                      go_wp2_with (first | (go_at_call 37; (with_reducible refine (laws_sameTexts.calls k3 _ _ t222 _ _ x4_14 t226 _ ?side1 ?side2 ?side3 ?side4 A37.out).mono ?_); (case side1 => repeat (first | exact (Kd.R_reads' HO225.out).2.2 | (with_reducible refine Kd.C_alloc ?_ _) | (with_reducible refine Kd.C_drewN ?_ _) | (with_reducible refine Kd.C_drew ?_))); (case side2 => exact (Kd.R_reads' HO225.out).2.1); (case side3 => repeat (first | exact (Kd.R_reads' HO_4.out).2.2 | (with_reducible refine Kd.C_alloc ?_ _) | (with_reducible refine Kd.C_drewN ?_ _) | (with_reducible refine Kd.C_drew ?_))); (case side4 => exact (Kd.R_reads' HO_4.out).2.1); rintro e w' ⟨rfl, ⟨nd, rfl⟩⟩))
                      go_meet
                      case rel => exact ⟨_, (!t226), (by first | rfl | (simp; done) | (simp [*]; done)), H', ⟨by have := HJ5.out; have := HJ14.out; have := HK3.out; first | omega | exact Nat.le_refl _⟩, ⟨by (with_reducible repeat (first | apply Kd.R_alloc | apply Kd.R_drewN | apply Kd.R_drew)); exact HO_3.out⟩, ⟨by (with_reducible repeat (first | apply Kd.R_alloc | apply Kd.R_drewN | apply Kd.R_drew)); exact Kd.R_mono HO_4.out (fun _ hk => trivial)⟩, ⟨by (with_reducible repeat (first | apply Kd.R_alloc | apply Kd.R_drewN | apply Kd.R_drew)); exact HO_6.out⟩, ⟨by repeat (first | (with_reducible first | exact HB.out | apply below_alloc | apply pw_below_drewN | apply below_drew1) | exact HB.out)⟩⟩
                    · rw [if_neg c36] at H
                      have c36b0 : (t223 == (x5_3.size : Int)) = false := beq_eq_false_iff_ne.mpr c36
                      have c36b1 : (t223 != (x5_3.size : Int)) = true := bne_iff_ne.mpr c36
                      (first | rw [c36b0] | (simp only [i64_w, i32_w]; rw [c36b0]) | skip)
                      have H' := Aside0.mk H
                      clear H
                      go_wp2
                      go_meet
                      case rel => exact ⟨_, (true), (by first | rfl | (simp; done) | (simp [*]; done)), H', ⟨by have := HJ5.out; have := HJ14.out; have := HK3.out; first | omega | exact Nat.le_refl _⟩, ⟨by (with_reducible repeat (first | apply Kd.R_alloc | apply Kd.R_drewN | apply Kd.R_drew)); exact HO_3.out⟩, ⟨by (with_reducible repeat (first | apply Kd.R_alloc | apply Kd.R_drewN | apply Kd.R_drew)); exact Kd.R_mono HO_4.out (fun _ hk => trivial)⟩, ⟨by (with_reducible repeat (first | apply Kd.R_alloc | apply Kd.R_drewN | apply Kd.R_drew)); exact HO_6.out⟩, ⟨by repeat (first | (with_reducible first | exact HB.out | apply below_alloc | apply pw_below_drewN | apply below_drew1) | exact HB.out)⟩⟩
                  case rest =>
                    clear HC33
                    try clear c1
                    try clear p1
                    try clear q1
                    try clear hx1
                    try clear qi1
                    try clear hf1
                    try clear c2
                    try clear p2
                    try clear q2
                    try clear hx2
                    try clear qi2
                    try clear c3
                    try clear c6
                    try clear p6
                    try clear c11
                    try clear c11b0
                    try clear c11b1
                    try clear c12
                    try clear c12b0
                    try clear c12b1
                    try clear c15
                    try clear c16
                    try clear c17
                    try clear c17b0
                    try clear c17b1
                    try clear p18
                    try clear q18
                    try clear hx18
                    try clear qi18
                    try clear hf18
                    try clear p21
                    try clear q21
                    try clear hx21
                    try clear qi21
                    try clear c23
                    try clear c23b0
                    try clear c23b1
                    try clear c24
                    try clear c24b0
                    try clear c26
                    try clear c27
                    try clear c27b0
                    try clear c27b1
                    try clear c27b2
                    try clear c28
                    try clear c34
                    try clear c35
                    try clear c36
                    try clear c36b0
                    try clear c36b1
                    try clear hx18_0
                    try clear hx210_0
                    try clear hx211_0
                    try clear hx216_0
                    try clear p1
                    try clear p18
                    try clear p2
                    try clear p21
                    try clear p210
                    try clear p211
                    try clear p216
                    try clear q1
                    try clear q18
                    try clear q2
                    try clear q21
                    try clear q210
                    try clear q211
                    try clear q216
                    obtain ⟨kq, x76_32, rfl, HA, HJ32, HO_3, HO_4, HO_6, HB⟩ := hcut
                    cases kq with
                    | zero => exact absurd HA.out (by simp [laws_FnFrames.j3])
                    | succ kj32 =>
                      have H := HA.out
                      clear HA
                      simp only [laws_FnFrames.j3] at H
                      by_cases c39 : x76_32 = true
                      · subst c39
                        have H1 : (some false) = some r := by rw [if_pos rfl] at H; exact H
                        clear H
                        have H := H1
                        clear H1
                        exact absurd ((Option.some.inj H).trans HLT.out) (by decide)
                      · replace c39 := Bool.eq_false_iff.mpr c39
                        subst c39
                        have H1 : (if 0 < (t203.length : Int) then (if (wrap64 ((x5_3.size : Int) + 1)) = 0 then (none) else (if 0 ≤ (Int.tmod (rd t203 0) (wrap64 ((x5_3.size : Int) + 1))) then (if (Int.tmod (rd t203 0) (wrap64 ((x5_3.size : Int) + 1))) ≤ (x5_3.size : Int) then ((impl_Unframe.f kj32 (x5_3.extract 0 ((Int.tmod (rd t203 0) (wrap64 ((x5_3.size : Int) + 1))) : Int).toNat)).bind fun bt228 => (if (bt228.1.length : Int) ≤ 3 then (if 0 ≤ (bt228.1.length : Int) then (if (bt228.1.length : Int) < (x6_3.length : Int) then (if bt228.2 = (rd x6_3 (bt228.1.length : Int)) then (if bt228.2 ≤ (Int.tmod (rd t203 0) (wrap64 ((x5_3.size : Int) + 1))) then (if (bt228.1.length : Int) ≤ (x4_14.length : Int) then ((laws_sameTexts.f kj32 bt228.1 (x4_14.take ((bt228.1.length : Int) : Int).toNat)).bind fun t237 => (if t237 = true then (if (bt228.1.length : Int) = 3 then (some true) else (if 0 ≤ (wrap64 ((bt228.1.length : Int) + 1)) then (if (wrap64 ((bt228.1.length : Int) + 1)) < (x6_3.length : Int) then (some (decide ((rd x6_3 (wrap64 ((bt228.1.length : Int) + 1))) > (Int.tmod (rd t203 0) (wrap64 ((x5_3.size : Int) + 1)))))) else (none)) else (none))) else (some false))) else (none)) else (some false)) else (some false)) else (none)) else (none)) else (some false))) else (none)) else (none))) else (none)) = some r := by rw [if_neg (show ¬ (false = true) by decide)] at H; exact H
                        clear H
                        have H := H1
                        clear H1
                        by_cases c40 : 0 < (t203.length : Int)
                        · rw [if_pos c40] at H
                          have c40b0 : decide (0 < (t203.length : Int)) = true := decide_eq_true c40
                          have c40b1 : decide (0 < t203.length) = true := decide_eq_true (by omega)
                          clear c40
                          by_cases c41 : (wrap64 ((x5_3.size : Int) + 1)) = 0
                          · rw [if_pos c41] at H
                            exact absurd H (by simp)
                          · rw [if_neg c41] at H
                            have c41b0 : ((wrap64 ((x5_3.size : Int) + 1)) == 0) = false := beq_eq_false_iff_ne.mpr c41
                            have c41b1 : ((wrap64 ((x5_3.size : Int) + 1)) != 0) = true := bne_iff_ne.mpr c41
                            obtain ⟨ji42, hji42⟩ : ∃ j_ : Int, (Int.tmod (rd t203 0) (wrap64 ((x5_3.size : Int) + 1))) = j_ := ⟨_, rfl⟩
                            replace H : (if 0 ≤ (ji42) then (if (ji42) ≤ (x5_3.size : Int) then ((impl_Unframe.f kj32 (x5_3.extract 0 ((ji42) : Int).toNat)).bind fun bt228 => (if (bt228.1.length : Int) ≤ 3 then (if 0 ≤ (bt228.1.length : Int) then (if (bt228.1.length : Int) < (x6_3.length : Int) then (if bt228.2 = (rd x6_3 (bt228.1.length : Int)) then (if bt228.2 ≤ (ji42) then (if (bt228.1.length : Int) ≤ (x4_14.length : Int) then ((laws_sameTexts.f kj32 bt228.1 (x4_14.take ((bt228.1.length : Int) : Int).toNat)).bind fun t237 => (if t237 = true then (if (bt228.1.length : Int) = 3 then (some true) else (if 0 ≤ (wrap64 ((bt228.1.length : Int) + 1)) then (if (wrap64 ((bt228.1.length : Int) + 1)) < (x6_3.length : Int) then (some (decide ((rd x6_3 (wrap64 ((bt228.1.length : Int) + 1))) > (ji42)))) else (none)) else (none))) else (some false))) else (none)) else (some false)) else (some false)) else (none)) else (none)) else (some false))) else (none)) else (none)) = some r := by first | (rw [hji42] at H; exact H) | (simp only [hji42] at H ⊢; exact H)
                            by_cases c43 : 0 ≤ (ji42)
                            · rw [if_pos c43] at H
                              have c43b0 := eq_true c43
                              have c43b1 : decide (0 ≤ (ji42)) = true := decide_eq_true c43
                              clear c43
                              by_cases c44 : (ji42) ≤ (x5_3.size : Int)
                              · rw [if_pos c44] at H
                                have c44b0 := eq_true c44
                                have c44b1 : decide ((ji42) ≤ (x5_3.size : Int)) = true := decide_eq_true c44
                                clear c44
                                replace H := Option.bind_eq_some_iff.mp H
                                obtain ⟨⟨t228, t229⟩, A450, H⟩ := H
                                replace H : (if (t228.length : Int) ≤ 3 then (if 0 ≤ (t228.length : Int) then (if (t228.length : Int) < (x6_3.length : Int) then (if t229 = (rd x6_3 (t228.length : Int)) then (if t229 ≤ (ji42) then (if (t228.length : Int) ≤ (x4_14.length : Int) then ((laws_sameTexts.f kj32 t228 (x4_14.take ((t228.length : Int) : Int).toNat)).bind fun t237 => (if t237 = true then (if (t228.length : Int) = 3 then (some true) else (if 0 ≤ (wrap64 ((t228.length : Int) + 1)) then (if (wrap64 ((t228.length : Int) + 1)) < (x6_3.length : Int) then (some (decide ((rd x6_3 (wrap64 ((t228.length : Int) + 1))) > (ji42)))) else (none)) else (none))) else (some false))) else (none)) else (some false)) else (some false)) else (none)) else (none)) else (some false)) = some r := H
                                have A45 := Aside0.mk A450
                                clear A450
                                by_cases c46 : (t228.length : Int) ≤ 3
                                · rw [if_pos c46] at H
                                  have c46b0 : decide ((t228.length : Int) ≤ 3) = true := decide_eq_true c46
                                  have c46b1 : decide (t228.length ≤ 3) = true := decide_eq_true (by omega)
                                  clear c46
                                  by_cases c47 : 0 ≤ (t228.length : Int)
                                  · rw [if_pos c47] at H
                                    have c47b0 : decide (0 ≤ (t228.length : Int)) = true := decide_eq_true c47
                                    have c47b1 : decide (0 ≤ t228.length) = true := decide_eq_true (by omega)
                                    clear c47
                                    by_cases c48 : (t228.length : Int) < (x6_3.length : Int)
                                    · rw [if_pos c48] at H
                                      have c48b0 : decide ((t228.length : Int) < (x6_3.length : Int)) = true := decide_eq_true c48
                                      have c48b1 : decide ((x6_3.length : Int) ≤ (t228.length : Int)) = false := decide_eq_false (by omega)
                                      have c48b2 : decide (t228.length < x6_3.length) = true := decide_eq_true (Int.ofNat_lt.mp c48)
                                      clear c48
                                      by_cases c49 : t229 = (rd x6_3 (t228.length : Int))
                                      · rw [if_pos c49] at H
                                        have c49b0 : (t229 == (rd x6_3 (t228.length : Int))) = true := beq_iff_eq.mpr c49
                                        have c49b1 : (t229 != (rd x6_3 (t228.length : Int))) = false := bne_eq_false_iff_eq.mpr c49
                                        clear c49
                                        by_cases c50 : t229 ≤ (ji42)
                                        · rw [if_pos c50] at H
                                          have c50b0 : decide (t229 ≤ (ji42)) = true := decide_eq_true c50
                                          have c50b1 : decide ((ji42) < t229) = false := decide_eq_false (by omega)
                                          clear c50
                                          have c51b0 := eq_true (of_decide_eq_true (by first | (with_reducible assumption) | assumption) : 0 ≤ (t228.length : Int))
                                          by_cases c52 : (t228.length : Int) ≤ (x4_14.length : Int)
                                          · rw [if_pos c52] at H
                                            have c52b0 := eq_true c52
                                            have c52b1 : decide ((t228.length : Int) ≤ (x4_14.length : Int)) = true := decide_eq_true c52
                                            clear c52
                                            obtain ⟨y233, hy233⟩ : ∃ y_ : List ByteArray, y_ = (x4_14.take ((t228.length : Int) : Int).toNat) := ⟨_, rfl⟩
                                            replace H : ((laws_sameTexts.f kj32 t228 y233).bind fun t237 => (if t237 = true then (if (t228.length : Int) = 3 then (some true) else (if 0 ≤ (wrap64 ((t228.length : Int) + 1)) then (if (wrap64 ((t228.length : Int) + 1)) < (x6_3.length : Int) then (some (decide ((rd x6_3 (wrap64 ((t228.length : Int) + 1))) > (ji42)))) else (none)) else (none))) else (some false))) = some r := by first | (rw [hy233]; with_reducible exact H) | (have H2_ := (Option.bind_some _ _).symm.trans H; rw [hy233]; with_reducible exact H2_) | (have H2_ := (Option.bind_some _ _).symm.trans H; with_reducible exact H2_) | with_reducible exact H | (rw [hy233]; exact H) | exact H
                                            have Ny233 := Aside0.mk hy233
                                            clear hy233
                                            replace H := Option.bind_eq_some_iff.mp H
                                            obtain ⟨t237, A530, H⟩ := H
                                            replace H : (if t237 = true then (if (t228.length : Int) = 3 then (some true) else (if 0 ≤ (wrap64 ((t228.length : Int) + 1)) then (if (wrap64 ((t228.length : Int) + 1)) < (x6_3.length : Int) then (some (decide ((rd x6_3 (wrap64 ((t228.length : Int) + 1))) > (ji42)))) else (none)) else (none))) else (some false)) = some r := H
                                            have A53 := Aside0.mk A530
                                            clear A530
                                            by_cases c54 : t237 = true
                                            · subst c54
                                              have H1 : (if (t228.length : Int) = 3 then (some true) else (if 0 ≤ (wrap64 ((t228.length : Int) + 1)) then (if (wrap64 ((t228.length : Int) + 1)) < (x6_3.length : Int) then (some (decide ((rd x6_3 (wrap64 ((t228.length : Int) + 1))) > (ji42)))) else (none)) else (none))) = some r := by rw [if_pos rfl] at H; exact H
                                              clear H
                                              have H := H1
                                              clear H1
                                              by_cases c55 : (t228.length : Int) = 3
                                              · rw [if_pos c55] at H
                                                have c55b0 : ((t228.length : Int) == 3) = true := beq_iff_eq.mpr c55
                                                have c55b1 : ((t228.length : Int) != 3) = false := bne_eq_false_iff_eq.mpr c55
                                                clear c55
                                                obtain rfl := Option.some.inj H
                                                obtain ⟨Ao56, co56, eo56⟩ := Kd.R_slice HO_3.out
                                                subst eo56
                                                have p227 : 0 ≤ (0 : Int) := (by omega)
                                                have q227 : 0 < (t203.length : Int) := of_decide_eq_true (by first | (with_reducible assumption) | assumption)
                                                obtain ⟨ad227, e227, hx227_0⟩ := Kd.at_int (Kd.R_reads' HO_3.out).2.2 0 p227 q227
                                                cases e227
                                                have qi227 : (0 < t203.length) = True := eq_true (by omega)
                                                (try rw [show ((0 : Int)).toNat = 0 from rfl] at hx227_0)
                                                (try rw [Addr.add_zero'] at hx227_0)
                                                replace p227 := eq_true p227
                                                replace q227 := eq_true q227
                                                go_wp2_with (first | ((with_reducible refine gate_callee (f := 36) rfl ?_); refine goesL_ (some 88) rfl rfl Try.func36 (by kernel_rfl) rfl #[.string (x5_3.extract 0 ((ji42) : Int).toNat)] rfl (by (try simp only [List.map_toArray, List.map_cons, List.map_nil]); first | done | (simp only [hji42]; rfl) | rfl | (simp only [List.length_drop, List.length_take]; rfl)) ?_; (with_reducible refine (impl_Unframe.calls kj32 (x5_3.extract 0 ((ji42) : Int).toNat) t228 t229 _ A45.out).mono ?_); rintro e w57 ⟨v230, rfl, ho0, hb⟩; refine ⟨_, rfl, ?_⟩; have n0_ := Aside0.mk (Kd.R_below (by (with_reducible repeat (first | apply Kd.R_alloc | apply Kd.R_drewN | apply Kd.R_drew)); exact HO_3.out) hb); have n1_ := Aside0.mk (Kd.R_elder' (by (with_reducible repeat (first | apply Kd.R_alloc | apply Kd.R_drewN | apply Kd.R_drew)); exact HO_4.out) (Kd.R_base ho0) hb); have n2_ := Aside0.mk (Kd.R_below (by (with_reducible repeat (first | apply Kd.R_alloc | apply Kd.R_drewN | apply Kd.R_drew)); exact HO_6.out) hb); have n3_ := Aside0.mk (Kd.R_lower (Kd.R_new' ho0 (Kd.R_lt (by (with_reducible repeat (first | apply Kd.R_alloc | apply Kd.R_drewN | apply Kd.R_drew)); exact HO_4.out))) (below_size (by repeat (first | (with_reducible first | exact HB.out | apply below_alloc | apply pw_below_drewN | apply below_drew1) | exact HB.out)))); have n4_ := Aside0.mk (below_step (by repeat (first | (with_reducible first | exact HB.out | apply below_alloc | apply pw_below_drewN | apply below_drew1) | exact HB.out)) hb); clear HO_3; clear HO_4; clear HO_6; clear HB; have HO_3 := n0_; have HO_4 := n1_; have HO_6 := n2_; have HO231 := n3_; have HB := n4_; clear n0_ n1_ n2_ n3_ n4_; (try clear hb); (try clear hb2); (try clear hk); (try clear hi); (try clear ho0); obtain ⟨Ao58, co58, eo58⟩ := Kd.R_slice HO231.out; subst eo58; obtain ⟨Ao59, co59, eo59⟩ := Kd.R_slice HO_6.out; subst eo59; have p232 : 0 ≤ ((t228.length : Int) : Int) := of_decide_eq_true (by first | (with_reducible assumption) | assumption); have q232 : (t228.length : Int) < (x6_3.length : Int) := of_decide_eq_true (by first | (with_reducible assumption) | assumption); obtain ⟨ad232, e232, hx232_0⟩ := Kd.at_int (Kd.R_reads' HO_6.out).2.2 (t228.length : Int) p232 q232; cases e232; (try simp only [Go.IntWalk.toNatUp] at hx232_0); replace p232 := eq_true p232; replace q232 := eq_true q232; have q60 : ((t228.length : Int) : Int) ≤ ((x4_14.length : Int) : Int) := of_decide_eq_true (by first | (with_reducible assumption) | assumption); obtain ⟨i060, hi060, _, hsz60, _⟩ := info_parts info9; have hroom60 : x4_14.length ≤ co34 := (Kd.R_reads' HO_4.out).2.1; have hC60 : Kd.C Kd.string _ Ao34 x4_14.length x4_14 := (Kd.R_reads' HO_4.out).2.2; have hcut60 := cut_to (P := Try.prog) 51 9 .i64 Try.underlying51 hi060 Ao34 x4_14.length co34 (t228.length : Int) (of_decide_eq_true (by first | (with_reducible assumption) | assumption)) q60 hroom60; have hr60 := Kd.C_take (m := ((t228.length : Int) : Int).toNat) hC60 (by omega); have hy60 : y233.length = ((t228.length : Int) : Int).toNat := (by rw [Ny233.out, List.length_take]; omega); rw [← Ny233.out] at hr60; rw [← hy60] at hcut60; have HR236 := Aside0.mk hr60; have HC236 := Aside0.mk (show y233.length ≤ co34 from by omega); clear hr60 hC60 hroom60 hi060 hsz60; have KY60 := Aside0.mk hy60; clear hy60; have KL60 := Aside0.mk (show ((t228.length : Int) : Int).toNat ≤ x4_14.length from by omega); replace q60 := eq_true q60) | (go_at_call 37; (with_reducible refine (laws_sameTexts.calls kj32 _ _ t228 _ _ y233 true _ ?side1 ?side2 ?side3 ?side4 A53.out).mono ?_); (case side1 => repeat (first | exact (Kd.R_reads' HO231.out).2.2 | (with_reducible refine Kd.C_alloc ?_ _) | (with_reducible refine Kd.C_drewN ?_ _) | (with_reducible refine Kd.C_drew ?_))); (case side2 => exact (Kd.R_reads' HO231.out).2.1); (case side3 => repeat (first | exact (by repeat (first | (with_reducible exact HR236.out) | (with_reducible refine Kd.C_alloc ?_ _) | (with_reducible refine Kd.C_drewN ?_ _) | (with_reducible refine Kd.C_drew ?_) | exact HR236.out)) | (with_reducible refine Kd.C_alloc ?_ _) | (with_reducible refine Kd.C_drewN ?_ _) | (with_reducible refine Kd.C_drew ?_))); (case side4 => exact HC236.out); rintro e w' ⟨rfl, ⟨nd, rfl⟩⟩))
                                                go_ret
                                                exact ⟨by first | rfl | (simp [errW_none, errW_some] <;> rfl) | (simp only [← hji42]; first | rfl | (simp [errW_none, errW_some] <;> rfl)) | (simp [*, errW_none, errW_some] <;> rfl), by repeat (first | (with_reducible first | exact HB.out | apply below_alloc | apply pw_below_drewN | apply below_drew1) | exact HB.out)⟩
                                              · rw [if_neg c55] at H
                                                have c55b0 : ((t228.length : Int) == 3) = false := beq_eq_false_iff_ne.mpr c55
                                                have c55b1 : ((t228.length : Int) != 3) = true := bne_iff_ne.mpr c55
                                                obtain ⟨ji61, hji61⟩ : ∃ j_ : Int, (wrap64 ((t228.length : Int) + 1)) = j_ := ⟨_, rfl⟩
                                                replace H : (if 0 ≤ (ji61) then (if (ji61) < (x6_3.length : Int) then (some (decide ((rd x6_3 (ji61)) > (ji42)))) else (none)) else (none)) = some r := by first | (rw [hji61] at H; exact H) | (simp only [hji61] at H ⊢; exact H)
                                                (try rw [hji61] at A45)
                                                (try rw [hji61] at A53)
                                                have hji61w : (IntKind.i64.wrap ((t228.length : Int) + 1)) = ji61 := (i64_w _).trans hji61
                                                by_cases c62 : 0 ≤ (ji61)
                                                · rw [if_pos c62] at H
                                                  have c62b0 : decide (0 ≤ (ji61)) = true := decide_eq_true c62
                                                  clear c62
                                                  by_cases c63 : (ji61) < (x6_3.length : Int)
                                                  · rw [if_pos c63] at H
                                                    have c63b0 : decide ((ji61) < (x6_3.length : Int)) = true := decide_eq_true c63
                                                    have c63b1 : decide ((x6_3.length : Int) ≤ (ji61)) = false := decide_eq_false (by omega)
                                                    clear c63
                                                    obtain rfl := Option.some.inj H
                                                    obtain ⟨Ao64, co64, eo64⟩ := Kd.R_slice HO_3.out
                                                    subst eo64
                                                    have p227 : 0 ≤ (0 : Int) := (by omega)
                                                    have q227 : 0 < (t203.length : Int) := of_decide_eq_true (by first | (with_reducible assumption) | assumption)
                                                    obtain ⟨ad227, e227, hx227_0⟩ := Kd.at_int (Kd.R_reads' HO_3.out).2.2 0 p227 q227
                                                    cases e227
                                                    have qi227 : (0 < t203.length) = True := eq_true (by omega)
                                                    (try rw [show ((0 : Int)).toNat = 0 from rfl] at hx227_0)
                                                    (try rw [Addr.add_zero'] at hx227_0)
                                                    replace p227 := eq_true p227
                                                    replace q227 := eq_true q227
                                                    go_wp2_with (first | ((with_reducible refine gate_callee (f := 36) rfl ?_); refine goesL_ (some 88) rfl rfl Try.func36 (by kernel_rfl) rfl #[.string (x5_3.extract 0 ((ji42) : Int).toNat)] rfl (by (try simp only [List.map_toArray, List.map_cons, List.map_nil]); first | done | (simp only [hji42]; rfl) | rfl | (simp only [List.length_drop, List.length_take]; rfl)) ?_; (with_reducible refine (impl_Unframe.calls kj32 (x5_3.extract 0 ((ji42) : Int).toNat) t228 t229 _ A45.out).mono ?_); rintro e w65 ⟨v230, rfl, ho0, hb⟩; refine ⟨_, rfl, ?_⟩; have n0_ := Aside0.mk (Kd.R_below (by (with_reducible repeat (first | apply Kd.R_alloc | apply Kd.R_drewN | apply Kd.R_drew)); exact HO_3.out) hb); have n1_ := Aside0.mk (Kd.R_elder' (by (with_reducible repeat (first | apply Kd.R_alloc | apply Kd.R_drewN | apply Kd.R_drew)); exact HO_4.out) (Kd.R_base ho0) hb); have n2_ := Aside0.mk (Kd.R_below (by (with_reducible repeat (first | apply Kd.R_alloc | apply Kd.R_drewN | apply Kd.R_drew)); exact HO_6.out) hb); have n3_ := Aside0.mk (Kd.R_lower (Kd.R_new' ho0 (Kd.R_lt (by (with_reducible repeat (first | apply Kd.R_alloc | apply Kd.R_drewN | apply Kd.R_drew)); exact HO_4.out))) (below_size (by repeat (first | (with_reducible first | exact HB.out | apply below_alloc | apply pw_below_drewN | apply below_drew1) | exact HB.out)))); have n4_ := Aside0.mk (below_step (by repeat (first | (with_reducible first | exact HB.out | apply below_alloc | apply pw_below_drewN | apply below_drew1) | exact HB.out)) hb); clear HO_3; clear HO_4; clear HO_6; clear HB; have HO_3 := n0_; have HO_4 := n1_; have HO_6 := n2_; have HO231 := n3_; have HB := n4_; clear n0_ n1_ n2_ n3_ n4_; (try clear hb); (try clear hb2); (try clear hk); (try clear hi); (try clear ho0); obtain ⟨Ao66, co66, eo66⟩ := Kd.R_slice HO231.out; subst eo66; obtain ⟨Ao67, co67, eo67⟩ := Kd.R_slice HO_6.out; subst eo67; have p232 : 0 ≤ ((t228.length : Int) : Int) := of_decide_eq_true (by first | (with_reducible assumption) | assumption); have q232 : (t228.length : Int) < (x6_3.length : Int) := of_decide_eq_true (by first | (with_reducible assumption) | assumption); obtain ⟨ad232, e232, hx232_0⟩ := Kd.at_int (Kd.R_reads' HO_6.out).2.2 (t228.length : Int) p232 q232; cases e232; (try simp only [Go.IntWalk.toNatUp] at hx232_0); replace p232 := eq_true p232; replace q232 := eq_true q232; have q68 : ((t228.length : Int) : Int) ≤ ((x4_14.length : Int) : Int) := of_decide_eq_true (by first | (with_reducible assumption) | assumption); obtain ⟨i068, hi068, _, hsz68, _⟩ := info_parts info9; have hroom68 : x4_14.length ≤ co34 := (Kd.R_reads' HO_4.out).2.1; have hC68 : Kd.C Kd.string _ Ao34 x4_14.length x4_14 := (Kd.R_reads' HO_4.out).2.2; have hcut68 := cut_to (P := Try.prog) 51 9 .i64 Try.underlying51 hi068 Ao34 x4_14.length co34 (t228.length : Int) (of_decide_eq_true (by first | (with_reducible assumption) | assumption)) q68 hroom68; have hr68 := Kd.C_take (m := ((t228.length : Int) : Int).toNat) hC68 (by omega); have hy68 : y233.length = ((t228.length : Int) : Int).toNat := (by rw [Ny233.out, List.length_take]; omega); rw [← Ny233.out] at hr68; rw [← hy68] at hcut68; have HR236 := Aside0.mk hr68; have HC236 := Aside0.mk (show y233.length ≤ co34 from by omega); clear hr68 hC68 hroom68 hi068 hsz68; have KY68 := Aside0.mk hy68; clear hy68; have KL68 := Aside0.mk (show ((t228.length : Int) : Int).toNat ≤ x4_14.length from by omega); replace q68 := eq_true q68) | (go_at_call 37; (with_reducible refine (laws_sameTexts.calls kj32 _ _ t228 _ _ y233 true _ ?side1 ?side2 ?side3 ?side4 A53.out).mono ?_); (case side1 => repeat (first | exact (Kd.R_reads' HO231.out).2.2 | (with_reducible refine Kd.C_alloc ?_ _) | (with_reducible refine Kd.C_drewN ?_ _) | (with_reducible refine Kd.C_drew ?_))); (case side2 => exact (Kd.R_reads' HO231.out).2.1); (case side3 => repeat (first | exact (by repeat (first | (with_reducible exact HR236.out) | (with_reducible refine Kd.C_alloc ?_ _) | (with_reducible refine Kd.C_drewN ?_ _) | (with_reducible refine Kd.C_drew ?_) | exact HR236.out)) | (with_reducible refine Kd.C_alloc ?_ _) | (with_reducible refine Kd.C_drewN ?_ _) | (with_reducible refine Kd.C_drew ?_))); (case side4 => exact HC236.out); rintro e w' ⟨rfl, ⟨nd, rfl⟩⟩; have p238 : 0 ≤ ((ji61) : Int) := of_decide_eq_true (by first | (with_reducible assumption) | assumption); have q238 : (ji61) < (x6_3.length : Int) := of_decide_eq_true (by first | (with_reducible assumption) | assumption); obtain ⟨ad238, e238, hx238_0⟩ := Kd.at_int (Kd.R_reads' HO_6.out).2.2 (ji61) p238 q238; obtain rfl : ad232 = ad238 := (by injection e238); replace p238 := eq_true p238; replace q238 := eq_true q238))
                                                    go_ret
                                                    exact ⟨by first | rfl | (simp [errW_none, errW_some] <;> rfl) | (simp only [← hji42, ← hji61]; first | rfl | (simp [errW_none, errW_some] <;> rfl)) | (simp [*, errW_none, errW_some] <;> rfl), by repeat (first | (with_reducible first | exact HB.out | apply below_alloc | apply pw_below_drewN | apply below_drew1) | exact HB.out)⟩
                                                  · rw [if_neg c63] at H
                                                    exact absurd H (by simp)
                                                · rw [if_neg c62] at H
                                                  exact absurd H (by simp)
                                            · replace c54 := Bool.eq_false_iff.mpr c54
                                              subst c54
                                              have H1 : (some false) = some r := by rw [if_neg (show ¬ (false = true) by decide)] at H; exact H
                                              clear H
                                              have H := H1
                                              clear H1
                                              exact absurd ((Option.some.inj H).trans HLT.out) (by decide)
                                          · rw [if_neg c52] at H
                                            exact absurd H (by simp)
                                        · rw [if_neg c50] at H
                                          have c50b0 : decide (t229 ≤ (ji42)) = false := decide_eq_false c50
                                          have c50b1 : decide ((ji42) < t229) = true := decide_eq_true (by omega)
                                          clear c50
                                          exact absurd ((Option.some.inj H).trans HLT.out) (by decide)
                                      · rw [if_neg c49] at H
                                        have c49b0 : (t229 == (rd x6_3 (t228.length : Int))) = false := beq_eq_false_iff_ne.mpr c49
                                        have c49b1 : (t229 != (rd x6_3 (t228.length : Int))) = true := bne_iff_ne.mpr c49
                                        exact absurd ((Option.some.inj H).trans HLT.out) (by decide)
                                    · rw [if_neg c48] at H
                                      exact absurd H (by simp)
                                  · rw [if_neg c47] at H
                                    exact absurd H (by simp)
                                · rw [if_neg c46] at H
                                  have c46b0 : decide ((t228.length : Int) ≤ 3) = false := decide_eq_false c46
                                  have c46b1 : decide (t228.length ≤ 3) = false := decide_eq_false (by omega)
                                  clear c46
                                  exact absurd ((Option.some.inj H).trans HLT.out) (by decide)
                              · rw [if_neg c44] at H
                                exact absurd H (by simp)
                            · rw [if_neg c43] at H
                              exact absurd H (by simp)
                        · rw [if_neg c40] at H
                          exact absurd H (by simp)

/-- THE ONE PURE STATEMENT of laws_FnFrames: yours. -/
def laws_FnFrames.Pure : Prop := ∀ (l0 : List Int), l0.length ≤ maxLen → l0.length * 1 ≤ 140737488351232 → (∀ x ∈ l0, (Lit.int .u8 x).wf = true) → ∃ k, laws_FnFrames.f k l0 = some true
theorem laws_FnFrames.walk (P : laws_FnFrames.Pure) (a0 : Option Addr) (len0 cap0 : Nat) (z0 : List Int) (w : World) (w0 : (a0 = none ∧ len0 = 0 ∧ cap0 = 0 ∧ z0 = []) ∨ ∃ x, a0 = some x ∧ len0 ≤ cap0 ∧ cap0 ≤ maxLen ∧ z0.length = cap0 ∧ (∀ i, i < z0.length → w.cell? (x.add i) = some (.int .u8 (z0.getD i 0))) ∧ ∀ n ∈ z0, (Lit.int .u8 n).wf = true) (y0 : len0 * 1 ≤ 140737488351232) :
    Calls Try.prog 6 #[.slice a0 len0 cap0] w fun e w' => e = .returned (.bool true) ∧ Below w.heap.size w w' := by
  obtain ⟨l0, rfl, hr0, hm0, hw0, hc0⟩ := ReadsInt.ofRowC w0
  obtain ⟨k, h⟩ := P l0 hm0 y0 hw0
  refine (laws_FnFrames.calls k _ _ l0 true w (Kd.C_of_reads (d := (0 : Int)) (h1 := fun _ => rfl) hr0) hc0 h).mono ?_
  rintro e w' ⟨rfl, hd⟩
  exact ⟨rfl, hd⟩

end Go.Proofs.Ytaainenplcokaaa.QFnFrames
