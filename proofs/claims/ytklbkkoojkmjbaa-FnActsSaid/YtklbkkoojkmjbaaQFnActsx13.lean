/- Written by the kit's print.py, called by our own print2.sh with one import more; not by print.sh. -/
import Derived.Test.YtklbkkoojkmjbaaQFnActsx0
import Derived.Test.YtklbkkoojkmjbaaQFnActsx8
import Derived.Test.YtklbkkoojkmjbaaQFnActsx10
import Derived.Test.YtklbkkoojkmjbaaQFnActsx12
namespace Go.Proofs.Ytklbkkoojkmjbaa.QFnActs
open Go.RowKit Go.Proofs.YtklbkkoojkmjbaaW.PrintWords Go.Proofs.YtklbkkoojkmjbaaW.PrintLast Go.Proofs.YtklbkkoojkmjbaaW.PrintMore
attribute [local go_sem] max2_int min2_int max_two min_two max_three min_three max_four min_four   -- for this text's walks alone
open Go.Proofs.Ytklbkkoojkmjbaa.Short
set_option linter.unusedVariables false
set_option linter.unusedSimpArgs false

/-! ### spec_l03Act: function 73 -/
def spec_l03Act.j0 : Nat → List Int → Int → Int → Int → ByteArray → ByteArray → ByteArray → Option (Int × ByteArray × ByteArray × ByteArray × Int × Int)
 | 0, _, _, _, _, _, _, _ => none
 | k + 1, x1000, x1001, x1002, x361000, x361001, x361002, x361003 => (spec_l01Below.f x1000 x1001 x1002 40).bind fun bt370 => (if bt370.1 = 0 then ((spec_l01PickInt.f x1000 bt370.2.1 bt370.2.2 (([0, 5] : List Int))).bind fun bt376 => (some (bt376.1, x361001, x361002, x361003, bt376.2.1, bt376.2.2))) else (if bt370.1 = 1 then ((spec_l01Pick.f x1000 bt370.2.1 bt370.2.2 (([(⟨#[]⟩ : ByteArray), (⟨#[49, 50, 51, 52, 53, 54, 55, 56, 57]⟩ : ByteArray), (⟨#[110, 101, 119]⟩ : ByteArray)] : List ByteArray))).bind fun bt382 => (some (x361000, bt382.1, x361002, x361003, bt382.2.1, bt382.2.2))) else (if bt370.1 = 2 then (some (x361000, x361001, x361002, (⟨#[120]⟩ : ByteArray), bt370.2.1, bt370.2.2)) else (if bt370.1 = 3 then (some (x361000, x361001, (⟨#[120]⟩ : ByteArray), x361003, bt370.2.1, bt370.2.2)) else (some (x361000, x361001, x361002, x361003, bt370.2.1, bt370.2.2))))))
def spec_l03Act.f (k : Nat) (s0_0 : List Int) (s0_1 : Int) (s0_2 : Int) : Option (Int × ByteArray × ByteArray × ByteArray × Int × Int) := (spec_l01Below.f s0_0 s0_1 s0_2 4).bind fun bt354 => ((spec_l03Named.f s0_0 bt354.2.1 bt354.2.2).bind fun bt357 => (if (wrap64 (1 + bt354.1)) = 1 then ((spec_l01Below.f s0_0 bt357.2.1 bt357.2.2 6).bind fun bt361 => ((spec_l01Text.f k s0_0 bt361.2.1 bt361.2.2 bt361.1).bind fun bt364 => (spec_l03Act.j0 k s0_0 bt364.2.1 bt364.2.2 (wrap64 (1 + bt354.1)) bt357.1 bt364.1 (⟨#[]⟩ : ByteArray)))) else (if (wrap64 (1 + bt354.1)) = 3 then ((spec_l03Named.f s0_0 bt357.2.1 bt357.2.2).bind fun bt367 => (spec_l03Act.j0 k s0_0 bt367.2.1 bt367.2.2 (wrap64 (1 + bt354.1)) bt357.1 (⟨#[]⟩ : ByteArray) bt367.1)) else (spec_l03Act.j0 k s0_0 bt357.2.1 bt357.2.2 (wrap64 (1 + bt354.1)) bt357.1 (⟨#[]⟩ : ByteArray) (⟨#[]⟩ : ByteArray)))))
theorem spec_l03Act.mono_l : ∀ k, (∀ y0 y1 y2 y3 y4 y5 y6, LeO (spec_l03Act.j0 k y0 y1 y2 y3 y4 y5 y6) (spec_l03Act.j0 (k + 1) y0 y1 y2 y3 y4 y5 y6))
 | 0 => fun _ _ _ _ _ _ _ r h => by simp [spec_l03Act.j0] at h
 | k + 1 => by
  have ih0 := spec_l03Act.mono_l k
  ·intro y0 y1 y2 y3 y4 y5 y6
   unfold spec_l03Act.j0
   repeat' first
   | (with_reducible exact ih0 _ _ _ _ _ _ _)
   | (with_reducible exact spec_l01Text.mono _ _ _ _ _)
   | (with_reducible exact LeO.refl _)
   | (with_reducible exact LeO.none _)
   | (with_reducible refine LeO.ite ?_ ?_)
   | (with_reducible refine LeO.bind ?_ (fun _ => ?_))
   | exact ih0 _ _ _ _ _ _ _
   | exact spec_l01Text.mono _ _ _ _ _
   | exact LeO.none _
   | refine LeO.ite ?_ ?_
   | refine LeO.bind ?_ (fun _ => ?_)
theorem spec_l03Act.mono : ∀ a0 a1 a2 k, LeO (spec_l03Act.f k a0 a1 a2) (spec_l03Act.f (k + 1) a0 a1 a2) := by
 intro a0 a1 a2 k
 have ih0 := spec_l03Act.mono_l k
 unfold spec_l03Act.f
 repeat' first
   | (with_reducible exact ih0 _ _ _ _ _ _ _)
   | (with_reducible exact spec_l01Text.mono _ _ _ _ _)
   | (with_reducible exact LeO.refl _)
   | (with_reducible exact LeO.none _)
   | (with_reducible refine LeO.ite ?_ ?_)
   | (with_reducible refine LeO.bind ?_ (fun _ => ?_))
   | exact ih0 _ _ _ _ _ _ _
   | exact spec_l01Text.mono _ _ _ _ _
   | exact LeO.none _
   | refine LeO.ite ?_ ?_
   | refine LeO.bind ?_ (fun _ => ?_)
set_option maxHeartbeats 8000000 in
set_option maxRecDepth 100000 in
theorem spec_l03Act.calls (k : Nat) (g : Nat) (s0_0 : List Int) (s0_1 : Int) (s0_2 : Int) (r1 : Int) (r2 : ByteArray) (r3 : ByteArray) (r4 : ByteArray) (r5 : Int) (r6 : Int) (w0 w : World) (hI : IsS93 w0 w g s0_0 s0_1 s0_2) (hB : Below w0.heap.size w0 w) (h : spec_l03Act.f k s0_0 s0_1 s0_2 = some (r1, r2, r3, r4, r5, r6)) :
  Calls Try.prog 73 #[.pointer (some ⟨g, 0, none⟩)] w fun e w' => e = .returned (.agg #[.int .i64 r1, .string r2, .string r3, .string r4]) ∧ IsS93 w0 w' g s0_0 r5 r6 ∧ Below w0.heap.size w0 w' ∧ KeepBut w w' g none := by
 have hu35 := Try.underlying35
 have HI0 := Aside0.mk hI
 have HK := Aside0.mk (KeepBut.refl w g none)
 have HL := Aside0.mk hB.size
 clear hI
 have HW0 := Aside0.mk hB.size
 have HB := Aside0.mk hB
 clear hB
 have H : ((spec_l01Below.f s0_0 s0_1 s0_2 4).bind fun bt354 => ((spec_l03Named.f s0_0 bt354.2.1 bt354.2.2).bind fun bt357 => (if (wrap64 (1 + bt354.1)) = 1 then ((spec_l01Below.f s0_0 bt357.2.1 bt357.2.2 6).bind fun bt361 => ((spec_l01Text.f k s0_0 bt361.2.1 bt361.2.2 bt361.1).bind fun bt364 => (spec_l03Act.j0 k s0_0 bt364.2.1 bt364.2.2 (wrap64 (1 + bt354.1)) bt357.1 bt364.1 (⟨#[]⟩ : ByteArray)))) else (if (wrap64 (1 + bt354.1)) = 3 then ((spec_l03Named.f s0_0 bt357.2.1 bt357.2.2).bind fun bt367 => (spec_l03Act.j0 k s0_0 bt367.2.1 bt367.2.2 (wrap64 (1 + bt354.1)) bt357.1 (⟨#[]⟩ : ByteArray) bt367.1)) else (spec_l03Act.j0 k s0_0 bt357.2.1 bt357.2.2 (wrap64 (1 + bt354.1)) bt357.1 (⟨#[]⟩ : ByteArray) (⟨#[]⟩ : ByteArray)))))) = some (r1, r2, r3, r4, r5, r6) := h
 clear h
 replace H := Option.bind_eq_some_iff.mp H
 obtain ⟨⟨t354, t355, t356⟩, A20, H⟩ := H
 try dsimp only at H
 have A2 := Aside0.mk A20
 clear A20
 replace H := Option.bind_eq_some_iff.mp H
 obtain ⟨⟨t357, t358, t359⟩, A30, H⟩ := H
 try dsimp only at H
 have A3 := Aside0.mk A30
 clear A30
 have HC4 := Aside0.mk H
 clear H
 go_enter Try.func73, Try.ntmps73
 go_upto_block 0 with (first | ((with_reducible refine gate_dst (N := 2) rfl ?_); refine box_event rfl (N := 2) rfl (cs := #[.int .i64 0, .string (⟨#[]⟩ : ByteArray), .string (⟨#[]⟩ : ByteArray), .string (⟨#[]⟩ : ByteArray)]) (t := 35) zrun ?_; intro gb353 hg w5 hbox hb; have BK353 := am (hbox); have GW353 := zks hg (zq0 HK); have GE353 := am ((Nat.le_trans HW0.out (by rw [hg]; exact (keep_size (w := w) (g := g) (row := none) (zq0 HK)) : w.heap.size ≤ gb353) : w0.heap.size ≤ gb353)); have NB0_353 := i93_l hg (show IsS93 w0 _ g s0_0 s0_1 s0_2 from (i93_0 HI0)); have NB353_0 := i93_g hg (show IsS93 w0 _ g s0_0 s0_1 s0_2 from (i93_0 HI0)); replace HK := am (KeepBut.trans (zq0 HK) (KeepBut.of_below hb g none) (.inl rfl)); replace HB := am (below_step ((zb1 HB.out (IsS93.ge HI0.out))) hb); replace HI0 := am (IsS93.below (i93_0 HI0) hb); clear hb hbox hg) | ((with_reducible refine gate_callee (f := 66) rfl ?_); refine goesL_ (some 5) rfl rfl Try.func66 (by kernel_rfl) rfl #[.pointer (some ⟨g, 0, none⟩), .int .i64 4] rfl zr ?_; (with_reducible refine (spec_l01Below.calls g s0_0 s0_1 s0_2 4 t354 t355 t356 w0 _ ?side1 ?side2 A2.out).mono ?_); (case side1 => exact i93_1 HI0 NB0_353); (case side2 => exact zb2 HB.out (IsS93.ge HI0.out) GE353.out); rintro e w6 ⟨rfl, hi, hb, hk⟩; refine ⟨_, rfl, ?_⟩; replace BK353 := zkb hk BK353 NB353_0; replace HK := zqt hk (zq1 HK GW353); replace HB := am (hb); replace HI0 := am (hi); clear hb hk hi) | ((with_reducible refine gate_callee (f := 68) rfl ?_); refine goesL_ (some 8) rfl rfl Try.func68 (by kernel_rfl) rfl #[.pointer (some ⟨g, 0, none⟩)] rfl zr ?_; (with_reducible refine (spec_l03Named.calls g s0_0 t355 t356 t357 t358 t359 w0 _ ?side1 ?side2 A3.out).mono ?_); (case side1 => exact i93_1 HI0 NB0_353); (case side2 => exact zb2 HB.out (IsS93.ge HI0.out) GE353.out); rintro e w7 ⟨rfl, hi, hb, hk⟩; refine ⟨_, rfl, ?_⟩; replace BK353 := zkb hk BK353 NB353_0; replace HK := zqt hk (zq1 HK GW353); replace HB := am (hb); replace HI0 := am (hi); clear hb hk hi) | ((with_reducible refine gate_dst (N := 3) rfl ?_); refine box_event rfl (N := 3) rfl (cs := #[.int .i64 0, .string (⟨#[]⟩ : ByteArray), .string (⟨#[]⟩ : ByteArray), .string (⟨#[]⟩ : ByteArray)]) (t := 35) zrun ?_; intro gb360 hg w8 hbox hb; have BK360 := am (hbox); have GW360 := zks hg (zq1 HK GW353); have GE360 := am ((Nat.le_trans HW0.out (by rw [hg]; exact (keep_size (w := w) (g := g) (row := none) (zq1 HK GW353)) : w.heap.size ≤ gb360) : w0.heap.size ≤ gb360)); obtain ⟨NB353_360, NB360_353⟩ := zne hg BK353; have NB0_360 := i93_l hg (show IsS93 w0 _ g s0_0 t358 t359 from (i93_1 HI0 NB0_353)); have NB360_0 := i93_g hg (show IsS93 w0 _ g s0_0 t358 t359 from (i93_1 HI0 NB0_353)); replace BK353 := zk hb BK353; replace HK := am (KeepBut.trans (zq1 HK GW353) (KeepBut.of_below hb g none) (.inl rfl)); replace HB := am (below_step ((zb2 HB.out (IsS93.ge HI0.out) GE353.out)) hb); replace HI0 := am (IsS93.below (i93_1 HI0 NB0_353) hb); clear hb hbox hg; obtain ⟨hnb9, hnc9⟩ := zn2 NB360_353; obtain ⟨hnb10, hnc10⟩ := zn2 NB360_0; obtain ⟨hcz11_0, hcz11_1, hcz11_2, hcz11_3, hfz11_0, hfz11_1, hfz11_2, hfz11_3⟩ := zc4 BK360.out))
 (try simp only [Act.put, List.setIfInBounds_toArray, List.set_cons_zero, List.set_cons_succ])
 go_cut [] (fun wc => ∃ (kq : Nat) (x1001_3 : Int) (x1002_3 : Int) (x361002_3 : ByteArray) (x361003_3 : ByteArray), Aside0 (spec_l03Act.j0 kq s0_0 x1001_3 x1002_3 (wrap64 (1 + t354)) t357 x361002_3 x361003_3 = some (r1, r2, r3, r4, r5, r6)) ∧ Aside0 (kq ≤ k) ∧ Aside0 (wc.heap[gb353]? = some (.cells #[.int .i64 0, .string (⟨#[]⟩ : ByteArray), .string (⟨#[]⟩ : ByteArray), .string (⟨#[]⟩ : ByteArray)] 35 (0, 0))) ∧ Aside0 (wc.heap[gb360]? = some (.cells #[.int .i64 (wrap64 (1 + t354)), .string t357, .string x361002_3, .string x361003_3] 35 (0, 0))) ∧ Aside0 (IsS93 w0 wc g s0_0 x1001_3 x1002_3) ∧ Aside0 (KeepBut w wc g none) ∧ Aside0 (Below w0.heap.size w0 wc))
 case first =>
  have H := HC4.out
  clear HC4
  by_cases c12 : (wrap64 (1 + t354)) = 1
  ·rw [if_pos c12] at H
   have c12b0 : ((wrap64 (1 + t354)) == 1) = true := beq_iff_eq.mpr c12
   have c12b1 : ((wrap64 (1 + t354)) != 1) = false := bne_eq_false_iff_eq.mpr c12
   clear c12
   (first | rw [c12b0] | (simp only [i64_w, i32_w]; rw [c12b0]) | skip)
   replace H := Option.bind_eq_some_iff.mp H
   obtain ⟨⟨t361, t362, t363⟩, A130, H⟩ := H
   try dsimp only at H
   have A13 := Aside0.mk A130
   clear A130
   replace H := Option.bind_eq_some_iff.mp H
   obtain ⟨⟨t364, t365, t366⟩, A140, H⟩ := H
   try dsimp only at H
   have A14 := Aside0.mk A140
   clear A140
   have H' := Aside0.mk H
   clear H
   go_wp2_with (first | ((with_reducible refine gate_callee (f := 66) rfl ?_); refine goesL_ (some 16) rfl rfl Try.func66 (by kernel_rfl) rfl #[.pointer (some ⟨g, 0, none⟩), .int .i64 6] rfl zr ?_; (with_reducible refine (spec_l01Below.calls g s0_0 t358 t359 6 t361 t362 t363 w0 _ ?side1 ?side2 A13.out).mono ?_); (case side1 => exact i93_2 HI0 NB0_353 NB0_360); (case side2 => exact zb3 HB.out (IsS93.ge HI0.out) GE353.out GE360.out); rintro e w15 ⟨rfl, hi, hb, hk⟩; refine ⟨_, rfl, ?_⟩; replace BK353 := am (KeepBut.blk hk (g' := gb353) (o := .cells #[.int .i64 0, .string (⟨#[]⟩ : ByteArray), .string (⟨#[]⟩ : ByteArray), .string (⟨#[]⟩ : ByteArray)] 35 (0, 0)) (zf1 BK353.out NB353_360.out) NB353_0.out (by simp)); replace BK360 := am (KeepBut.blk hk (g' := gb360) (o := .cells #[.int .i64 (wrap64 (1 + t354)), .string t357, .string (⟨#[]⟩ : ByteArray), .string (⟨#[]⟩ : ByteArray)] 35 (0, 0)) (zt3210 BK360.out) NB360_0.out (by simp)); replace HK := zqt hk (zq2 HK GW353 GW360); replace HB := am (hb); replace HI0 := am (hi); clear hb hk hi) | ((with_reducible refine gate_callee (f := 67) rfl ?_); refine goesL_ (some 17) rfl rfl Try.func67 (by kernel_rfl) rfl #[.pointer (some ⟨g, 0, none⟩), .int .i64 t361] rfl zr ?_; (with_reducible refine (spec_l01Text.calls k g s0_0 t362 t363 t361 t364 t365 t366 w0 _ ?side1 ?side2 A14.out).mono ?_); (case side1 => exact i93_2 HI0 NB0_353 NB0_360); (case side2 => exact zb3 HB.out (IsS93.ge HI0.out) GE353.out GE360.out); rintro e w16 ⟨rfl, hi, hb, hk⟩; refine ⟨_, rfl, ?_⟩; replace BK353 := zkb hk BK353 NB353_0; replace BK360 := zkb hk BK360 NB360_0; replace HK := zqt hk (zq2 HK GW353 GW360); replace HB := am (hb); replace HI0 := am (hi); clear hb hk hi; obtain ⟨hnb17, hnc17⟩ := zn2 NB360_353; obtain ⟨hnb18, hnc18⟩ := zn2 NB360_0; obtain ⟨hcz19_0, hcz19_1, hcz19_2, hcz19_3, hfz19_0, hfz19_1, hfz19_2, hfz19_3⟩ := zc4 BK360.out))
   go_meet
   case rel => exact ⟨_, (t365), (t366), (t364), ((⟨#[]⟩ : ByteArray)), H', ⟨by first | omega | exact Nat.le_refl _⟩, ⟨zf1 BK353.out NB353_360.out⟩, ⟨by (with_reducible repeat (first | refine blk_drewN ?_ _ | refine blk_drew ?_ | refine blk_alloc ?_ _)); refine blk_put (cs := #[.int .i64 (wrap64 (1 + t354)), .string t357, .string (⟨#[]⟩ : ByteArray), .string (⟨#[]⟩ : ByteArray)]) ?_ 2 _ rfl; (with_reducible repeat (first | refine blk_drewN ?_ _ | refine blk_drew ?_ | refine blk_alloc ?_ _)); exact BK360.out⟩, ⟨(i93_2 HI0 NB0_353 NB0_360)⟩, ⟨(zq2 HK GW353 GW360)⟩, ⟨(zb3 HB.out (IsS93.ge HI0.out) GE353.out GE360.out)⟩⟩
  ·rw [if_neg c12] at H
   have c12b0 : ((wrap64 (1 + t354)) == 1) = false := beq_eq_false_iff_ne.mpr c12
   have c12b1 : ((wrap64 (1 + t354)) != 1) = true := bne_iff_ne.mpr c12
   (first | rw [c12b0] | (simp only [i64_w, i32_w]; rw [c12b0]) | skip)
   by_cases c20 : (wrap64 (1 + t354)) = 3
   ·rw [if_pos c20] at H
    have c20b0 : ((wrap64 (1 + t354)) == 3) = true := beq_iff_eq.mpr c20
    have c20b1 : ((wrap64 (1 + t354)) != 3) = false := bne_eq_false_iff_eq.mpr c20
    clear c20
    replace H := Option.bind_eq_some_iff.mp H
    obtain ⟨⟨t367, t368, t369⟩, A210, H⟩ := H
    try dsimp only at H
    have A21 := Aside0.mk A210
    clear A210
    have H' := Aside0.mk H
    clear H
    go_wp2_with (first | ((with_reducible refine gate_callee (f := 68) rfl ?_); refine goesL_ (some 22) rfl rfl Try.func68 (by kernel_rfl) rfl #[.pointer (some ⟨g, 0, none⟩)] rfl zr ?_; (with_reducible refine (spec_l03Named.calls g s0_0 t358 t359 t367 t368 t369 w0 _ ?side1 ?side2 A21.out).mono ?_); (case side1 => exact i93_2 HI0 NB0_353 NB0_360); (case side2 => exact zb3 HB.out (IsS93.ge HI0.out) GE353.out GE360.out); rintro e w22 ⟨rfl, hi, hb, hk⟩; refine ⟨_, rfl, ?_⟩; replace BK353 := am (KeepBut.blk hk (g' := gb353) (o := .cells #[.int .i64 0, .string (⟨#[]⟩ : ByteArray), .string (⟨#[]⟩ : ByteArray), .string (⟨#[]⟩ : ByteArray)] 35 (0, 0)) (zf1 BK353.out NB353_360.out) NB353_0.out (by simp)); replace BK360 := am (KeepBut.blk hk (g' := gb360) (o := .cells #[.int .i64 (wrap64 (1 + t354)), .string t357, .string (⟨#[]⟩ : ByteArray), .string (⟨#[]⟩ : ByteArray)] 35 (0, 0)) (zt3210 BK360.out) NB360_0.out (by simp)); replace HK := zqt hk (zq2 HK GW353 GW360); replace HB := am (hb); replace HI0 := am (hi); clear hb hk hi; obtain ⟨hnb23, hnc23⟩ := zn2 NB360_353; obtain ⟨hnb24, hnc24⟩ := zn2 NB360_0; obtain ⟨hcz25_0, hcz25_1, hcz25_2, hcz25_3, hfz25_0, hfz25_1, hfz25_2, hfz25_3⟩ := zc4 BK360.out))
    go_meet
    case rel => exact ⟨_, (t368), (t369), ((⟨#[]⟩ : ByteArray)), (t367), H', ⟨by first | omega | exact Nat.le_refl _⟩, ⟨zf1 BK353.out NB353_360.out⟩, ⟨by (with_reducible repeat (first | refine blk_drewN ?_ _ | refine blk_drew ?_ | refine blk_alloc ?_ _)); refine blk_put (cs := #[.int .i64 (wrap64 (1 + t354)), .string t357, .string (⟨#[]⟩ : ByteArray), .string (⟨#[]⟩ : ByteArray)]) ?_ 3 _ rfl; (with_reducible repeat (first | refine blk_drewN ?_ _ | refine blk_drew ?_ | refine blk_alloc ?_ _)); exact BK360.out⟩, ⟨(i93_2 HI0 NB0_353 NB0_360)⟩, ⟨(zq2 HK GW353 GW360)⟩, ⟨(zb3 HB.out (IsS93.ge HI0.out) GE353.out GE360.out)⟩⟩
   ·rw [if_neg c20] at H
    have c20b0 : ((wrap64 (1 + t354)) == 3) = false := beq_eq_false_iff_ne.mpr c20
    have c20b1 : ((wrap64 (1 + t354)) != 3) = true := bne_iff_ne.mpr c20
    have H' := Aside0.mk H
    clear H
    go_wp2
    go_meet
    case rel => exact ⟨_, (t358), (t359), ((⟨#[]⟩ : ByteArray)), ((⟨#[]⟩ : ByteArray)), H', ⟨by first | omega | exact Nat.le_refl _⟩, ⟨zf1 BK353.out NB353_360.out⟩, ⟨by (with_reducible repeat (first | refine blk_drewN ?_ _ | refine blk_drew ?_ | refine blk_alloc ?_ _)); refine blk_put (cs := #[.int .i64 (wrap64 (1 + t354)), .string t357, .string (⟨#[]⟩ : ByteArray), .string (⟨#[]⟩ : ByteArray)]) ?_ 3 _ rfl; (with_reducible repeat (first | refine blk_drewN ?_ _ | refine blk_drew ?_ | refine blk_alloc ?_ _)); refine blk_put (cs := #[.int .i64 (wrap64 (1 + t354)), .string t357, .string (⟨#[]⟩ : ByteArray), .string (⟨#[]⟩ : ByteArray)]) ?_ 2 _ rfl; (with_reducible repeat (first | refine blk_drewN ?_ _ | refine blk_drew ?_ | refine blk_alloc ?_ _)); refine blk_put (cs := #[.int .i64 (wrap64 (1 + t354)), .string (⟨#[]⟩ : ByteArray), .string (⟨#[]⟩ : ByteArray), .string (⟨#[]⟩ : ByteArray)]) ?_ 1 _ rfl; (with_reducible repeat (first | refine blk_drewN ?_ _ | refine blk_drew ?_ | refine blk_alloc ?_ _)); refine blk_put (cs := #[.int .i64 0, .string (⟨#[]⟩ : ByteArray), .string (⟨#[]⟩ : ByteArray), .string (⟨#[]⟩ : ByteArray)]) ?_ 0 _ rfl; (with_reducible repeat (first | refine blk_drewN ?_ _ | refine blk_drew ?_ | refine blk_alloc ?_ _)); exact BK360.out⟩, ⟨(i93_2 HI0 NB0_353 NB0_360)⟩, ⟨(zq2 HK GW353 GW360)⟩, ⟨(zb3 HB.out (IsS93.ge HI0.out) GE353.out GE360.out)⟩⟩
 case rest =>
  clear HC4
  obtain ⟨kq, x1001_3, x1002_3, x361002_3, x361003_3, HA, HJ3, BK353, BK360, HI0, HK, HB⟩ := hcut
  cases kq with
  | zero => exact absurd HA.out (by simp [spec_l03Act.j0])
  | succ kj3 =>
   have H := HA.out
   clear HA
   simp only [spec_l03Act.j0] at H
   replace H := Option.bind_eq_some_iff.mp H
   obtain ⟨⟨t370, t371, t372⟩, A260, H⟩ := H
   try dsimp only at H
   have A26 := Aside0.mk A260
   clear A260
   by_cases c27 : t370 = 0
   ·rw [if_pos c27] at H
    have c27b0 : (t370 == 0) = true := beq_iff_eq.mpr c27
    have c27b1 : (t370 != 0) = false := bne_eq_false_iff_eq.mpr c27
    clear c27
    obtain ⟨y373, hy373⟩ : ∃ y_ : List Int, y_ = (([0, 5] : List Int)) := ⟨_, rfl⟩
    replace H : ((spec_l01PickInt.f s0_0 t371 t372 y373).bind fun bt376 => (some (bt376.1, t357, x361002_3, x361003_3, bt376.2.1, bt376.2.2))) = some (r1, r2, r3, r4, r5, r6) := by first | (rw [hy373]; with_reducible exact H) | (have H2_ := (Option.bind_some _ _).symm.trans H; rw [hy373]; with_reducible exact H2_) | (have H2_ := (Option.bind_some _ _).symm.trans H; with_reducible exact H2_) | with_reducible exact H | (rw [hy373]; exact H) | exact H
    have Ny373 := Aside0.mk hy373
    clear hy373
    replace H := Option.bind_eq_some_iff.mp H
    obtain ⟨⟨t376, t377, t378⟩, A280, H⟩ := H
    try dsimp only at H
    have A28 := Aside0.mk A280
    clear A280
    simp only [Option.some.injEq, Prod.mk.injEq] at H
    obtain ⟨rfl, rfl, rfl, rfl, rfl, rfl⟩ := H
    go_wp2_with (first | ((with_reducible refine gate_callee (f := 66) rfl ?_); refine goesL_ (some 25) rfl rfl Try.func66 (by kernel_rfl) rfl #[.pointer (some ⟨g, 0, none⟩), .int .i64 40] rfl zr ?_; (with_reducible refine (spec_l01Below.calls g s0_0 x1001_3 x1002_3 40 t370 t371 t372 w0 _ ?side1 ?side2 A26.out).mono ?_); (case side1 => exact i93_2 HI0 NB0_353 NB0_360); (case side2 => exact zb3 HB.out (IsS93.ge HI0.out) GE353.out GE360.out); rintro e w29 ⟨rfl, hi, hb, hk⟩; refine ⟨_, rfl, ?_⟩; replace BK353 := zkb hk BK353 NB353_0; replace BK360 := zkb hk BK360 NB360_0; replace HK := zqt hk (zq2 HK GW353 GW360); replace HB := am (hb); replace HI0 := am (hi); clear hb hk hi) | ((with_reducible refine gate_dst (N := 29) rfl ?_); refine Kd.R_lit (Kd.int .i64) _ 3 ?hg (N := 29) ?hd (xs := ([0, 5] : List Int)) (inner := [.int .i64 0, .int .i64 5]) (ok := fun _ => True) (okp := fun _ => True) ?hr ?hp (fun _ hk => hk) trivial (Below.refl _ _) (Nat.le_refl _) (by simp) ?_; (case hd => rfl); (case hg => rfl); (case hr => first | (go_simp; done) | (go_simp; rfl)); (case hp => exact (Reps.one (show Kd.M (Kd.int .i64) _ _ _ 0 [.int .i64 0] from rfl) (Reps.one (show Kd.M (Kd.int .i64) _ _ _ 5 [.int .i64 5] from rfl) (Reps.none _ _)))); intro v374 w30 ho31 hb hg_ hnew_; clear hg_ hnew_; (first | rw [← Ny373.out] at ho31 | (simp only [Int.reduceToNat] at ho31; rw [← Ny373.out] at ho31)); have HO375 := am (Kd.R_lower ho31 (keep_size (w := w) (g := g) (row := none) (zq2 HK GW353 GW360))); replace BK353 := zk hb BK353; replace BK360 := zk hb BK360; replace HK := am (KeepBut.trans (zq2 HK GW353 GW360) (KeepBut.of_below hb g none) (.inl rfl)); replace HB := am (below_step ((zb3 HB.out (IsS93.ge HI0.out) GE353.out GE360.out)) hb); replace HI0 := am (IsS93.below (i93_2 HI0 NB0_353 NB0_360) hb); clear hb ho31; obtain ⟨Ao32, co32, eo32⟩ := Kd.R_slice HO375.out; subst eo32) | ((with_reducible refine gate_callee (f := 69) rfl ?_); refine goesL_ (some 30) rfl rfl Try.func69 (by kernel_rfl) rfl #[.pointer (some ⟨g, 0, none⟩), .slice Ao32 y373.length co32] rfl zr ?_; (with_reducible refine (spec_l01PickInt.calls g s0_0 t371 t372 _ _ y373 t376 t377 t378 w0 _ ?side1 ?side2 ?side3 ?side4 ?side5 A28.out).mono ?_); (case side1 => exact i93_2 HI0 NB0_353 NB0_360); (case side2 => exact zb3 HB.out (IsS93.ge HI0.out) GE353.out GE360.out); (case side3 => repeat (first | exact (Kd.R_reads' HO375.out).2.2 | (with_reducible refine Kd.C_alloc ?_ _) | (with_reducible refine Kd.C_drewN ?_ _) | (with_reducible refine Kd.C_drew ?_))); (case side4 => exact (Kd.R_reads' HO375.out).2.1); (case side5 => exact far_slice (IsS93.own_ne HI0.out HO375.out (by decide))); rintro e w33 ⟨rfl, hi, hb, hk⟩; refine ⟨_, rfl, ?_⟩; replace BK353 := zkb hk BK353 NB353_0; replace BK360 := zkb hk BK360 NB360_0; replace HO375 := i93_r hk (show IsS93 w0 _ g s0_0 t371 t372 from (i93_2 HI0 NB0_353 NB0_360)) HO375; replace HK := zqt hk (zq2 HK GW353 GW360); replace HB := am (hb); replace HI0 := am (hi); clear hb hk hi; obtain ⟨hnb34, hnc34⟩ := zn2 NB360_353; obtain ⟨hnb35, hnc35⟩ := zn2 NB360_0; obtain ⟨hcz36_0, hcz36_1, hcz36_2, hcz36_3, hfz36_0, hfz36_1, hfz36_2, hfz36_3⟩ := zc4 BK360.out; obtain ⟨hnb37, hnc37⟩ := zn2 NB353_0; obtain ⟨hcz38_0, hcz38_1, hcz38_2, hcz38_3, hfz38_0, hfz38_1, hfz38_2, hfz38_3⟩ := zc4 BK353.out))
    refine bodyPost_ret (results_cell_row rfl _ _ gb353 35 #[.int .i64 t376, .string t357, .string x361002_3, .string x361003_3] (0, 0) _ rfl (zt3210f BK353.out NB353_360.out) Try.underlying35 rfl (by kernel_rfl)) rfl ?_
    exact ⟨by first | rfl | (simp [errW_none, errW_some] <;> rfl) | (simp [*, errW_none, errW_some] <;> rfl), (i93_2 HI0 NB0_353 NB0_360), (zb3 HB.out (IsS93.ge HI0.out) GE353.out GE360.out), (zq2 HK GW353 GW360)⟩
   ·rw [if_neg c27] at H
    have c27b0 : (t370 == 0) = false := beq_eq_false_iff_ne.mpr c27
    have c27b1 : (t370 != 0) = true := bne_iff_ne.mpr c27
    by_cases c39 : t370 = 1
    ·rw [if_pos c39] at H
     have c39b0 : (t370 == 1) = true := beq_iff_eq.mpr c39
     have c39b1 : (t370 != 1) = false := bne_eq_false_iff_eq.mpr c39
     clear c39
     obtain ⟨y379, hy379⟩ : ∃ y_ : List ByteArray, y_ = (([(⟨#[]⟩ : ByteArray), (⟨#[49, 50, 51, 52, 53, 54, 55, 56, 57]⟩ : ByteArray), (⟨#[110, 101, 119]⟩ : ByteArray)] : List ByteArray)) := ⟨_, rfl⟩
     replace H : ((spec_l01Pick.f s0_0 t371 t372 y379).bind fun bt382 => (some ((wrap64 (1 + t354)), bt382.1, x361002_3, x361003_3, bt382.2.1, bt382.2.2))) = some (r1, r2, r3, r4, r5, r6) := by first | (rw [hy379]; with_reducible exact H) | (have H2_ := (Option.bind_some _ _).symm.trans H; rw [hy379]; with_reducible exact H2_) | (have H2_ := (Option.bind_some _ _).symm.trans H; with_reducible exact H2_) | with_reducible exact H | (rw [hy379]; exact H) | exact H
     have Ny379 := Aside0.mk hy379
     clear hy379
     replace H := Option.bind_eq_some_iff.mp H
     obtain ⟨⟨t382, t383, t384⟩, A400, H⟩ := H
     try dsimp only at H
     have A40 := Aside0.mk A400
     clear A400
     simp only [Option.some.injEq, Prod.mk.injEq] at H
     obtain ⟨rfl, rfl, rfl, rfl, rfl, rfl⟩ := H
     go_wp2_with (first | ((with_reducible refine gate_callee (f := 66) rfl ?_); refine goesL_ (some 25) rfl rfl Try.func66 (by kernel_rfl) rfl #[.pointer (some ⟨g, 0, none⟩), .int .i64 40] rfl zr ?_; (with_reducible refine (spec_l01Below.calls g s0_0 x1001_3 x1002_3 40 t370 t371 t372 w0 _ ?side1 ?side2 A26.out).mono ?_); (case side1 => exact i93_2 HI0 NB0_353 NB0_360); (case side2 => exact zb3 HB.out (IsS93.ge HI0.out) GE353.out GE360.out); rintro e w41 ⟨rfl, hi, hb, hk⟩; refine ⟨_, rfl, ?_⟩; replace BK353 := zkb hk BK353 NB353_0; replace BK360 := zkb hk BK360 NB360_0; replace HK := zqt hk (zq2 HK GW353 GW360); replace HB := am (hb); replace HI0 := am (hi); clear hb hk hi) | ((with_reducible refine gate_dst (N := 35) rfl ?_); refine Kd.R_lit Kd.string _ 9 ?hg (N := 35) ?hd (xs := ([(⟨#[]⟩ : ByteArray), (⟨#[49, 50, 51, 52, 53, 54, 55, 56, 57]⟩ : ByteArray), (⟨#[110, 101, 119]⟩ : ByteArray)] : List ByteArray)) (inner := [.string (⟨#[]⟩ : ByteArray), .string (⟨#[49, 50, 51, 52, 53, 54, 55, 56, 57]⟩ : ByteArray), .string (⟨#[110, 101, 119]⟩ : ByteArray)]) (ok := fun _ => True) (okp := fun _ => True) ?hr ?hp (fun _ hk => hk) trivial (Below.refl _ _) (Nat.le_refl _) (by simp) ?_; (case hd => rfl); (case hg => rfl); (case hr => first | (go_simp; done) | (go_simp; rfl)); (case hp => exact (Reps.one (show Kd.M Kd.string _ _ _ (⟨#[]⟩ : ByteArray) [.string (⟨#[]⟩ : ByteArray)] from rfl) (Reps.one (show Kd.M Kd.string _ _ _ (⟨#[49, 50, 51, 52, 53, 54, 55, 56, 57]⟩ : ByteArray) [.string (⟨#[49, 50, 51, 52, 53, 54, 55, 56, 57]⟩ : ByteArray)] from rfl) (Reps.one (show Kd.M Kd.string _ _ _ (⟨#[110, 101, 119]⟩ : ByteArray) [.string (⟨#[110, 101, 119]⟩ : ByteArray)] from rfl) (Reps.none _ _))))); intro v380 w42 ho43 hb hg_ hnew_; clear hg_ hnew_; (first | rw [← Ny379.out] at ho43 | (simp only [Int.reduceToNat] at ho43; rw [← Ny379.out] at ho43)); have HO381 := am (Kd.R_lower ho43 (keep_size (w := w) (g := g) (row := none) (zq2 HK GW353 GW360))); replace BK353 := zk hb BK353; replace BK360 := zk hb BK360; replace HK := am (KeepBut.trans (zq2 HK GW353 GW360) (KeepBut.of_below hb g none) (.inl rfl)); replace HB := am (below_step ((zb3 HB.out (IsS93.ge HI0.out) GE353.out GE360.out)) hb); replace HI0 := am (IsS93.below (i93_2 HI0 NB0_353 NB0_360) hb); clear hb ho43; obtain ⟨Ao44, co44, eo44⟩ := Kd.R_slice HO381.out; subst eo44) | ((with_reducible refine gate_callee (f := 70) rfl ?_); refine goesL_ (some 36) rfl rfl Try.func70 (by kernel_rfl) rfl #[.pointer (some ⟨g, 0, none⟩), .slice Ao44 y379.length co44] rfl zr ?_; (with_reducible refine (spec_l01Pick.calls g s0_0 t371 t372 _ _ y379 t382 t383 t384 w0 _ ?side1 ?side2 ?side3 ?side4 ?side5 A40.out).mono ?_); (case side1 => exact i93_2 HI0 NB0_353 NB0_360); (case side2 => exact zb3 HB.out (IsS93.ge HI0.out) GE353.out GE360.out); (case side3 => repeat (first | exact (Kd.R_reads' HO381.out).2.2 | (with_reducible refine Kd.C_alloc ?_ _) | (with_reducible refine Kd.C_drewN ?_ _) | (with_reducible refine Kd.C_drew ?_))); (case side4 => exact (Kd.R_reads' HO381.out).2.1); (case side5 => exact far_slice (IsS93.own_ne HI0.out HO381.out (by decide))); rintro e w45 ⟨rfl, hi, hb, hk⟩; refine ⟨_, rfl, ?_⟩; replace BK353 := zkb hk BK353 NB353_0; replace BK360 := zkb hk BK360 NB360_0; replace HO381 := i93_r hk (show IsS93 w0 _ g s0_0 t371 t372 from (i93_2 HI0 NB0_353 NB0_360)) HO381; replace HK := zqt hk (zq2 HK GW353 GW360); replace HB := am (hb); replace HI0 := am (hi); clear hb hk hi; obtain ⟨hnb46, hnc46⟩ := zn2 NB360_353; obtain ⟨hnb47, hnc47⟩ := zn2 NB360_0; obtain ⟨hcz48_0, hcz48_1, hcz48_2, hcz48_3, hfz48_0, hfz48_1, hfz48_2, hfz48_3⟩ := zc4 BK360.out; obtain ⟨hnb49, hnc49⟩ := zn2 NB353_0; obtain ⟨hcz50_0, hcz50_1, hcz50_2, hcz50_3, hfz50_0, hfz50_1, hfz50_2, hfz50_3⟩ := zc4 BK353.out))
     refine bodyPost_ret (results_cell_row rfl _ _ gb353 35 #[.int .i64 (wrap64 (1 + t354)), .string t382, .string x361002_3, .string x361003_3] (0, 0) _ rfl (zt3210f BK353.out NB353_360.out) Try.underlying35 rfl (by kernel_rfl)) rfl ?_
     exact ⟨by first | rfl | (simp [errW_none, errW_some] <;> rfl) | (simp [*, errW_none, errW_some] <;> rfl), (i93_2 HI0 NB0_353 NB0_360), (zb3 HB.out (IsS93.ge HI0.out) GE353.out GE360.out), (zq2 HK GW353 GW360)⟩
    ·rw [if_neg c39] at H
     have c39b0 : (t370 == 1) = false := beq_eq_false_iff_ne.mpr c39
     have c39b1 : (t370 != 1) = true := bne_iff_ne.mpr c39
     by_cases c51 : t370 = 2
     ·rw [if_pos c51] at H
      have c51b0 : (t370 == 2) = true := beq_iff_eq.mpr c51
      have c51b1 : (t370 != 2) = false := bne_eq_false_iff_eq.mpr c51
      clear c51
      simp only [Option.some.injEq, Prod.mk.injEq] at H
      obtain ⟨rfl, rfl, rfl, rfl, rfl, rfl⟩ := H
      go_wp2_with (first | ((with_reducible refine gate_callee (f := 66) rfl ?_); refine goesL_ (some 25) rfl rfl Try.func66 (by kernel_rfl) rfl #[.pointer (some ⟨g, 0, none⟩), .int .i64 40] rfl zr ?_; (with_reducible refine (spec_l01Below.calls g s0_0 x1001_3 x1002_3 40 t370 t371 t372 w0 _ ?side1 ?side2 A26.out).mono ?_); (case side1 => exact i93_2 HI0 NB0_353 NB0_360); (case side2 => exact zb3 HB.out (IsS93.ge HI0.out) GE353.out GE360.out); rintro e w52 ⟨rfl, hi, hb, hk⟩; refine ⟨_, rfl, ?_⟩; replace BK353 := zkb hk BK353 NB353_0; replace BK360 := zkb hk BK360 NB360_0; replace HK := zqt hk (zq2 HK GW353 GW360); replace HB := am (hb); replace HI0 := am (hi); clear hb hk hi; obtain ⟨hnb53, hnc53⟩ := zn2 NB360_353; obtain ⟨hnb54, hnc54⟩ := zn2 NB360_0; obtain ⟨hcz55_0, hcz55_1, hcz55_2, hcz55_3, hfz55_0, hfz55_1, hfz55_2, hfz55_3⟩ := zc4 BK360.out; obtain ⟨hnb56, hnc56⟩ := zn2 NB353_0; obtain ⟨hcz57_0, hcz57_1, hcz57_2, hcz57_3, hfz57_0, hfz57_1, hfz57_2, hfz57_3⟩ := zc4 BK353.out))
      refine bodyPost_ret (results_cell_row rfl _ _ gb353 35 #[.int .i64 (wrap64 (1 + t354)), .string t357, .string x361002_3, .string (⟨#[120]⟩ : ByteArray)] (0, 0) _ rfl (zt3210f BK353.out NB353_360.out) Try.underlying35 rfl (by kernel_rfl)) rfl ?_
      exact ⟨by first | rfl | (simp [errW_none, errW_some] <;> rfl) | (simp [*, errW_none, errW_some] <;> rfl), (i93_2 HI0 NB0_353 NB0_360), (zb3 HB.out (IsS93.ge HI0.out) GE353.out GE360.out), (zq2 HK GW353 GW360)⟩
     ·rw [if_neg c51] at H
      have c51b0 : (t370 == 2) = false := beq_eq_false_iff_ne.mpr c51
      have c51b1 : (t370 != 2) = true := bne_iff_ne.mpr c51
      by_cases c58 : t370 = 3
      ·rw [if_pos c58] at H
       have c58b0 : (t370 == 3) = true := beq_iff_eq.mpr c58
       have c58b1 : (t370 != 3) = false := bne_eq_false_iff_eq.mpr c58
       clear c58
       simp only [Option.some.injEq, Prod.mk.injEq] at H
       obtain ⟨rfl, rfl, rfl, rfl, rfl, rfl⟩ := H
       go_wp2_with (first | ((with_reducible refine gate_callee (f := 66) rfl ?_); refine goesL_ (some 25) rfl rfl Try.func66 (by kernel_rfl) rfl #[.pointer (some ⟨g, 0, none⟩), .int .i64 40] rfl zr ?_; (with_reducible refine (spec_l01Below.calls g s0_0 x1001_3 x1002_3 40 t370 t371 t372 w0 _ ?side1 ?side2 A26.out).mono ?_); (case side1 => exact i93_2 HI0 NB0_353 NB0_360); (case side2 => exact zb3 HB.out (IsS93.ge HI0.out) GE353.out GE360.out); rintro e w59 ⟨rfl, hi, hb, hk⟩; refine ⟨_, rfl, ?_⟩; replace BK353 := zkb hk BK353 NB353_0; replace BK360 := zkb hk BK360 NB360_0; replace HK := zqt hk (zq2 HK GW353 GW360); replace HB := am (hb); replace HI0 := am (hi); clear hb hk hi; obtain ⟨hnb60, hnc60⟩ := zn2 NB360_353; obtain ⟨hnb61, hnc61⟩ := zn2 NB360_0; obtain ⟨hcz62_0, hcz62_1, hcz62_2, hcz62_3, hfz62_0, hfz62_1, hfz62_2, hfz62_3⟩ := zc4 BK360.out; obtain ⟨hnb63, hnc63⟩ := zn2 NB353_0; obtain ⟨hcz64_0, hcz64_1, hcz64_2, hcz64_3, hfz64_0, hfz64_1, hfz64_2, hfz64_3⟩ := zc4 BK353.out))
       refine bodyPost_ret (results_cell_row rfl _ _ gb353 35 #[.int .i64 (wrap64 (1 + t354)), .string t357, .string (⟨#[120]⟩ : ByteArray), .string x361003_3] (0, 0) _ rfl (zt3210f BK353.out NB353_360.out) Try.underlying35 rfl (by kernel_rfl)) rfl ?_
       exact ⟨by first | rfl | (simp [errW_none, errW_some] <;> rfl) | (simp [*, errW_none, errW_some] <;> rfl), (i93_2 HI0 NB0_353 NB0_360), (zb3 HB.out (IsS93.ge HI0.out) GE353.out GE360.out), (zq2 HK GW353 GW360)⟩
      ·rw [if_neg c58] at H
       have c58b0 : (t370 == 3) = false := beq_eq_false_iff_ne.mpr c58
       have c58b1 : (t370 != 3) = true := bne_iff_ne.mpr c58
       simp only [Option.some.injEq, Prod.mk.injEq] at H
       obtain ⟨rfl, rfl, rfl, rfl, rfl, rfl⟩ := H
       go_wp2_with (first | ((with_reducible refine gate_callee (f := 66) rfl ?_); refine goesL_ (some 25) rfl rfl Try.func66 (by kernel_rfl) rfl #[.pointer (some ⟨g, 0, none⟩), .int .i64 40] rfl zr ?_; (with_reducible refine (spec_l01Below.calls g s0_0 x1001_3 x1002_3 40 t370 t371 t372 w0 _ ?side1 ?side2 A26.out).mono ?_); (case side1 => exact i93_2 HI0 NB0_353 NB0_360); (case side2 => exact zb3 HB.out (IsS93.ge HI0.out) GE353.out GE360.out); rintro e w65 ⟨rfl, hi, hb, hk⟩; refine ⟨_, rfl, ?_⟩; replace BK353 := zkb hk BK353 NB353_0; replace BK360 := zkb hk BK360 NB360_0; replace HK := zqt hk (zq2 HK GW353 GW360); replace HB := am (hb); replace HI0 := am (hi); clear hb hk hi; obtain ⟨hnb66, hnc66⟩ := zn2 NB360_353; obtain ⟨hnb67, hnc67⟩ := zn2 NB360_0; obtain ⟨hcz68_0, hcz68_1, hcz68_2, hcz68_3, hfz68_0, hfz68_1, hfz68_2, hfz68_3⟩ := zc4 BK360.out; obtain ⟨hnb69, hnc69⟩ := zn2 NB353_0; obtain ⟨hcz70_0, hcz70_1, hcz70_2, hcz70_3, hfz70_0, hfz70_1, hfz70_2, hfz70_3⟩ := zc4 BK353.out))
       refine bodyPost_ret (results_cell_row rfl _ _ gb353 35 #[.int .i64 (wrap64 (1 + t354)), .string t357, .string x361002_3, .string x361003_3] (0, 0) _ rfl (zt3210 BK353.out) Try.underlying35 rfl (by kernel_rfl)) rfl ?_
       exact ⟨by first | rfl | (simp [errW_none, errW_some] <;> rfl) | (simp [*, errW_none, errW_some] <;> rfl), (i93_2 HI0 NB0_353 NB0_360), (zb3 HB.out (IsS93.ge HI0.out) GE353.out GE360.out), (zq2 HK GW353 GW360)⟩

/-! ### spec_l01Once: function 74 -/
def spec_l01Once.f (s0_0 : List Int) (s0_1 : Int) (s0_2 : Int) (a1 : Int) : Option (Bool × Int × Int) := (spec_l01Below.f s0_0 s0_1 s0_2 a1).bind fun bt385 => (some ((bt385.1 == 0), bt385.2.1, bt385.2.2))
set_option maxHeartbeats 8000000 in
set_option maxRecDepth 100000 in
theorem spec_l01Once.calls (g : Nat) (s0_0 : List Int) (s0_1 : Int) (s0_2 : Int) (a1 : Int) (r1 : Bool) (r2 : Int) (r3 : Int) (w0 w : World) (hI : IsS93 w0 w g s0_0 s0_1 s0_2) (hB : Below w0.heap.size w0 w) (h : spec_l01Once.f s0_0 s0_1 s0_2 a1 = some (r1, r2, r3)) :
  Calls Try.prog 74 #[.pointer (some ⟨g, 0, none⟩), .int .i64 a1] w fun e w' => e = .returned (.bool r1) ∧ IsS93 w0 w' g s0_0 r2 r3 ∧ Below w0.heap.size w0 w' ∧ KeepBut w w' g none := by
 have HI0 := Aside0.mk hI
 have HK := Aside0.mk (KeepBut.refl w g none)
 have HL := Aside0.mk hB.size
 clear hI
 have HW0 := Aside0.mk hB.size
 have HB := Aside0.mk hB
 clear hB
 have H : ((spec_l01Below.f s0_0 s0_1 s0_2 a1).bind fun bt385 => (some ((bt385.1 == 0), bt385.2.1, bt385.2.2))) = some (r1, r2, r3) := h
 clear h
 replace H := Option.bind_eq_some_iff.mp H
 obtain ⟨⟨t385, t386, t387⟩, A30, H⟩ := H
 try dsimp only at H
 have A3 := Aside0.mk A30
 clear A30
 simp only [Option.some.injEq, Prod.mk.injEq] at H
 obtain ⟨rfl, rfl, rfl⟩ := H
 go_enter Try.func74, Try.ntmps74
 go_wp2_with (first | ((with_reducible refine gate_callee (f := 66) rfl ?_); refine goesL_ (some 7) rfl rfl Try.func66 (by kernel_rfl) rfl #[.pointer (some ⟨g, 0, none⟩), .int .i64 a1] rfl zr ?_; (with_reducible refine (spec_l01Below.calls g s0_0 s0_1 s0_2 a1 t385 t386 t387 w0 _ ?side1 ?side2 A3.out).mono ?_); (case side1 => exact i93_0 HI0); (case side2 => exact zb1 HB.out (IsS93.ge HI0.out)); rintro e w4 ⟨rfl, hi, hb, hk⟩; refine ⟨_, rfl, ?_⟩; replace HK := zqt hk (zq0 HK); replace HB := am (hb); replace HI0 := am (hi); clear hb hk hi))
 go_ret
 exact ⟨by first | rfl | (simp [errW_none, errW_some] <;> rfl) | (simp [*, errW_none, errW_some] <;> rfl), (i93_0 HI0), (zb1 HB.out (IsS93.ge HI0.out)), (zq0 HK)⟩

/-! ### spec_l03Acts: function 51 -/
def spec_l03Acts.l0 : Nat → List (S35) → Int → List Int → Int → Int → List (S66) → Option ((List (S35)) × Int × Int)
 | 0, _, _, _, _, _, _ => none
 | k + 1, x5, x6, x1000, x1001, x1002, x389000 => (spec_l01Below.f x1000 x1001 x1002 9).bind fun bt392 => (if x6 < bt392.1 then ((spec_l03Act.f k x1000 bt392.2.1 bt392.2.2).bind fun bt395 => ((spec_DoAct.f k x389000 bt395.1 bt395.2.1 bt395.2.2.1 bt395.2.2.2.1).bind fun bt402 => (if bt402.2 = true then (if x5.length < 2513169434916 then (spec_l03Acts.l0 k (x5 ++ [(⟨bt395.1, bt395.2.1, bt395.2.2.1, bt395.2.2.2.1⟩ : S35)]) (wrap64 (x6 + 1)) x1000 bt395.2.2.2.2.1 bt395.2.2.2.2.2 bt402.1) else (none)) else ((spec_l01Once.f x1000 bt395.2.2.2.2.1 bt395.2.2.2.2.2 20).bind fun bt410 => (if bt410.1 = true then (if x5.length < 2513169434916 then (spec_l03Acts.l0 k (x5 ++ [(⟨bt395.1, bt395.2.1, bt395.2.2.1, bt395.2.2.2.1⟩ : S35)]) (wrap64 (x6 + 1)) x1000 bt410.2.1 bt410.2.2 bt402.1) else (none)) else (spec_l03Acts.l0 k x5 (wrap64 (x6 + 1)) x1000 bt410.2.1 bt410.2.2 x389000)))))) else (some (x5, bt392.2.1, bt392.2.2)))
def spec_l03Acts.f (k : Nat) (s0_0 : List Int) (s0_1 : Int) (s0_2 : Int) (l1_0 : List (S66)) : Option ((List (S35)) × Int × Int) := spec_l03Acts.l0 k (([] : List (S35))) 0 s0_0 s0_1 s0_2 l1_0
theorem spec_l03Acts.mono_l : ∀ k, (∀ y0 y1 y2 y3 y4 y5, LeO (spec_l03Acts.l0 k y0 y1 y2 y3 y4 y5) (spec_l03Acts.l0 (k + 1) y0 y1 y2 y3 y4 y5))
 | 0 => fun _ _ _ _ _ _ r h => by simp [spec_l03Acts.l0] at h
 | k + 1 => by
  have ih0 := spec_l03Acts.mono_l k
  ·intro y0 y1 y2 y3 y4 y5
   unfold spec_l03Acts.l0
   repeat' first
   | (with_reducible exact ih0 _ _ _ _ _ _)
   | (with_reducible exact spec_DoAct.mono _ _ _ _ _ _)
   | (with_reducible exact spec_l03Act.mono _ _ _ _)
   | (with_reducible exact LeO.refl _)
   | (with_reducible exact LeO.none _)
   | (with_reducible refine LeO.ite ?_ ?_)
   | (with_reducible refine LeO.bind ?_ (fun _ => ?_))
   | exact ih0 _ _ _ _ _ _
   | exact spec_DoAct.mono _ _ _ _ _ _
   | exact spec_l03Act.mono _ _ _ _
   | exact LeO.none _
   | refine LeO.ite ?_ ?_
   | refine LeO.bind ?_ (fun _ => ?_)
theorem spec_l03Acts.mono : ∀ a0 a1 a2 a3 k, LeO (spec_l03Acts.f k a0 a1 a2 a3) (spec_l03Acts.f (k + 1) a0 a1 a2 a3) := by
 intro a0 a1 a2 a3 k
 have ih0 := spec_l03Acts.mono_l k
 unfold spec_l03Acts.f
 repeat' first
   | (with_reducible exact ih0 _ _ _ _ _ _)
   | (with_reducible exact spec_DoAct.mono _ _ _ _ _ _)
   | (with_reducible exact spec_l03Act.mono _ _ _ _)
   | (with_reducible exact LeO.refl _)
   | (with_reducible exact LeO.none _)
   | (with_reducible refine LeO.ite ?_ ?_)
   | (with_reducible refine LeO.bind ?_ (fun _ => ?_))
   | exact ih0 _ _ _ _ _ _
   | exact spec_DoAct.mono _ _ _ _ _ _
   | exact spec_l03Act.mono _ _ _ _
   | exact LeO.none _
   | refine LeO.ite ?_ ?_
   | refine LeO.bind ?_ (fun _ => ?_)
set_option maxHeartbeats 8000000 in
set_option maxRecDepth 100000 in
theorem spec_l03Acts.calls (k : Nat) (g : Nat) (s0_0 : List Int) (s0_1 : Int) (s0_2 : Int) (P1_0_ : Nat → Prop) (A1_0 : Option Addr) (c1_0 : Nat) (l1_0 : List (S66)) (r1 : List (S35)) (r2 : Int) (r3 : Int) (w0 w : World) (hI : IsS93 w0 w g s0_0 s0_1 s0_2) (hB : Below w0.heap.size w0 w) (hs1_0 : Kd.V k66 66 w w.heap.size (fun k_ => P1_0_ k_ ∧ k_ ≠ g) (.slice A1_0 l1_0.length c1_0) l1_0) (h : spec_l03Acts.f k s0_0 s0_1 s0_2 l1_0 = some (r1, r2, r3)) :
  Calls Try.prog 51 #[.pointer (some ⟨g, 0, none⟩), .agg #[.slice A1_0 l1_0.length c1_0]] w fun e w' => ∃ v0_ : Value, e = .returned (v0_) ∧ Kd.R k35 35 w' w.heap.size (fun k_ => (w.heap.size ≤ k_)) v0_ r1 ∧ IsS93 w0 w' g s0_0 r2 r3 ∧ Below w0.heap.size w0 w' ∧ KeepBut w w' g none := by
 have hu31 := Try.underlying31
 have hu35 := Try.underlying35
 have HO1_0 := Aside0.mk (show Kd.V k66 66 w w.heap.size (fun k_ => (P1_0_ k_ ∨ w.heap.size ≤ k_) ∧ k_ ≠ g) (.slice A1_0 l1_0.length c1_0) l1_0 from Kd.V_mono hs1_0 (fun k_ hk => ⟨.inl hk.1, hk.2⟩))
 have HI0 := Aside0.mk hI
 have HK := Aside0.mk (KeepBut.refl w g none)
 have HL := Aside0.mk hB.size
 clear hI
 have HW0 := Aside0.mk hB.size
 have HB := Aside0.mk hB
 clear hB
 have H : (spec_l03Acts.l0 k (([] : List (S35))) 0 s0_0 s0_1 s0_2 l1_0) = some (r1, r2, r3) := h
 clear h
 obtain ⟨y389, hy389⟩ : ∃ y_ : List (S35), y_ = (([] : List (S35))) := ⟨_, rfl⟩
 replace H : (spec_l03Acts.l0 k y389 0 s0_0 s0_1 s0_2 l1_0) = some (r1, r2, r3) := by first | (rw [hy389]; with_reducible exact H) | (have H2_ := (Option.bind_some _ _).symm.trans H; rw [hy389]; with_reducible exact H2_) | (have H2_ := (Option.bind_some _ _).symm.trans H; with_reducible exact H2_) | with_reducible exact H | (rw [hy389]; exact H) | exact H
 have Ny389 := Aside0.mk hy389
 clear hy389
 have H' := Aside0.mk H
 clear H
 go_enter Try.func51, Try.ntmps51
 go_wp2_with (first | ((with_reducible refine gate_dst (N := 3) rfl ?_); refine box_event rfl (N := 3) rfl (cs := #[.slice A1_0 l1_0.length c1_0]) (t := 31) zrun ?_; intro gb388 hg w3 hbox hb; have BK388 := am (hbox); have GW388 := zks hg (zq0 HK); have GE388 := am ((Nat.le_trans HW0.out (by rw [hg]; exact (keep_size (w := w) (g := g) (row := none) (zq0 HK)) : w.heap.size ≤ gb388) : w0.heap.size ≤ gb388)); have NB0_388 := i93_l hg (show IsS93 w0 _ g s0_0 s0_1 s0_2 from (i93_0 HI0)); have NB388_0 := i93_g hg (show IsS93 w0 _ g s0_0 s0_1 s0_2 from (i93_0 HI0)); replace HO1_0 := am (Kd.V_below (Kd.V_elderB (by (with_reducible repeat (first | apply Kd.V_alloc | apply Kd.V_drewN | apply Kd.V_drew)); exact HO1_0.out) gb388 (Nat.le_of_eq hg.symm)) hb); replace HK := am (KeepBut.trans (zq0 HK) (KeepBut.of_below hb g none) (.inl rfl)); replace HB := am (below_step ((zb1 HB.out (IsS93.ge HI0.out))) hb); replace HI0 := am (IsS93.below (i93_0 HI0) hb); clear hb hbox hg) | ((with_reducible refine gate_dst (N := 10) rfl ?_); refine Kd.R_lit k35 _ 35 ?hg (N := 10) ?hd (xs := ([] : List (S35))) (inner := []) (ok := fun _ => True) (okp := fun _ => True) ?hr ?hp (fun _ hk => hk) trivial (Below.refl _ _) (Nat.le_refl _) (by simp) ?_; (case hd => rfl); (case hg => rfl); (case hr => first | (go_simp; done) | (go_simp; rfl)); (case hp => exact (Reps.none _ _)); intro v390 w4 ho5 hb hg_ hnew_; clear hg_ hnew_; (first | rw [← Ny389.out] at ho5 | (simp only [Int.reduceToNat] at ho5; rw [← Ny389.out] at ho5)); have HO391 := am (Kd.R_lower (Kd.R_newM (M := fun k_ => (w.heap.size ≤ k_)) ho5 (keep_size (w := w) (g := g) (row := none) (zq1 HK GW388)) (fun k_ h_ => h_)) (keep_size (w := w) (g := g) (row := none) (zq1 HK GW388))); replace HO1_0 := am (Kd.V_elder' (by (with_reducible repeat (first | apply Kd.V_alloc | apply Kd.V_drewN | apply Kd.V_drew)); exact HO1_0.out) (Kd.R_base ho5) hb); replace BK388 := zk hb BK388; replace HK := am (KeepBut.trans (zq1 HK GW388) (KeepBut.of_below hb g none) (.inl rfl)); replace HB := am (below_step ((zb2 HB.out (IsS93.ge HI0.out) GE388.out)) hb); replace HI0 := am (IsS93.below (i93_1 HI0 NB0_388) hb); clear hb ho5))
 go_loopg [5, 6] k (fun kq v5 v6 w' => ∃ (x5_1 : List (S35)) (x6_1 : Int) (x1001_1 : Int) (x1002_1 : Int) (x389000_1 : List (S66)) (u389000 : Value), v6 = .int .i64 x6_1 ∧ Aside0 (spec_l03Acts.l0 kq x5_1 x6_1 s0_0 x1001_1 x1002_1 x389000_1 = some (r1, r2, r3)) ∧ Aside0 (kq ≤ k) ∧ Aside0 (Kd.R k35 35 w' w.heap.size (fun k_ => (w.heap.size ≤ k_)) v5 x5_1) ∧ Aside0 (Kd.V k66 66 w' w.heap.size (fun k_ => (P1_0_ k_ ∨ w.heap.size ≤ k_) ∧ some k_ ≠ (v5 : Value).ownBlock ∧ k_ ≠ gb388 ∧ k_ ≠ g) u389000 x389000_1) ∧ Aside0 (w'.heap[gb388]? = some (.cells #[u389000] 31 (0, 0))) ∧ Aside0 (IsS93 w0 w' g s0_0 x1001_1 x1002_1) ∧ Aside0 (KeepBut w w' g none) ∧ Aside0 (Below w0.heap.size w0 w'))
 case atStart => exact ⟨(y389), (0), (s0_1), (s0_2), (l1_0), (.slice A1_0 l1_0.length c1_0), (by first | rfl | (simp; done) | (simp [*]; done)), H', ⟨Nat.le_refl _⟩, ⟨rx (Kd.R_mono HO391.out (fun _ hk => hk.1))⟩, ⟨by (with_reducible repeat (first | apply Kd.V_alloc | apply Kd.V_drewN | apply Kd.V_drew)); exact Kd.V_mono HO1_0.out (fun _ hk => ⟨hk.1.1.1, ⟨hk.2, ⟨hk.1.2, hk.1.1.2⟩⟩⟩)⟩, ⟨kx BK388.out⟩, ⟨(i93_1 HI0 NB0_388)⟩, ⟨(zq1 HK GW388)⟩, ⟨(zb2 HB.out (IsS93.ge HI0.out) GE388.out)⟩⟩
 case round =>
  clear H'
  obtain ⟨x5_1, x6_1, x1001_1, x1002_1, x389000_1, u389000, rfl, HA, HK1, HO_5, HO_389000, BK388, HI0, HK, HB⟩ := hrel
  cases gk with
  | zero => exact absurd HA.out (by simp [spec_l03Acts.l0])
  | succ k1 =>
   have H := HA.out
   clear HA
   simp only [spec_l03Acts.l0] at H
   replace H := Option.bind_eq_some_iff.mp H
   obtain ⟨⟨t392, t393, t394⟩, A60, H⟩ := H
   try dsimp only at H
   have A6 := Aside0.mk A60
   clear A60
   by_cases c7 : x6_1 < t392
   ·rw [if_pos c7] at H
    have c7b0 : decide (x6_1 < t392) = true := decide_eq_true c7
    have c7b1 : decide (t392 ≤ x6_1) = false := decide_eq_false (by omega)
    clear c7
    replace H := Option.bind_eq_some_iff.mp H
    obtain ⟨⟨t395, t396, t397, t398, t399, t400⟩, A80, H⟩ := H
    try dsimp only at H
    have A8 := Aside0.mk A80
    clear A80
    replace H := Option.bind_eq_some_iff.mp H
    obtain ⟨⟨t402, t405⟩, A90, H⟩ := H
    try dsimp only at H
    have A9 := Aside0.mk A90
    clear A90
    by_cases c10 : t405 = true
    ·subst c10
     have H1 : (if x5_1.length < 2513169434916 then (spec_l03Acts.l0 k1 (x5_1 ++ [(⟨t395, t396, t397, t398⟩ : S35)]) (wrap64 (x6_1 + 1)) s0_0 t399 t400 t402) else (none)) = some (r1, r2, r3) := by rw [if_pos rfl] at H; exact H
     clear H
     have H := H1
     clear H1
     by_cases c11 : x5_1.length < 2513169434916
     ·rw [if_pos c11] at H
      have LMc11 := Aside0.mk c11
      clear c11
      obtain ⟨y407, hy407⟩ : ∃ y_ : List (S35), y_ = (x5_1 ++ [(⟨t395, t396, t397, t398⟩ : S35)]) := ⟨_, rfl⟩
      replace H : (spec_l03Acts.l0 k1 y407 (wrap64 (x6_1 + 1)) s0_0 t399 t400 t402) = some (r1, r2, r3) := by first | (rw [hy407]; with_reducible exact H) | (have H2_ := (Option.bind_some _ _).symm.trans H; rw [hy407]; with_reducible exact H2_) | (have H2_ := (Option.bind_some _ _).symm.trans H; with_reducible exact H2_) | with_reducible exact H | (rw [hy407]; exact H) | exact H
      have Ny407 := Aside0.mk hy407
      clear hy407
      have H' := Aside0.mk H
      clear H
      go_wp2_with (first | ((with_reducible refine gate_callee (f := 66) rfl ?_); refine goesL_ (some 13) rfl rfl Try.func66 (by kernel_rfl) rfl #[.pointer (some ⟨g, 0, none⟩), .int .i64 9] rfl zr ?_; (with_reducible refine (spec_l01Below.calls g s0_0 x1001_1 x1002_1 9 t392 t393 t394 w0 _ ?side1 ?side2 A6.out).mono ?_); (case side1 => exact i93_1 HI0 NB0_388); (case side2 => exact zb2 HB.out (IsS93.ge HI0.out) GE388.out); rintro e w12 ⟨rfl, hi, hb, hk⟩; refine ⟨_, rfl, ?_⟩; replace HO_5 := i93_r hk (show IsS93 w0 _ g s0_0 x1001_1 x1002_1 from (i93_1 HI0 NB0_388)) HO_5; replace HO_389000 := am (Kd.V_mono (Kd.V_keep (Kd.V_mono (ok := fun k_ => (((P1_0_ k_ ∨ w.heap.size ≤ k_)) ∧ (some k_ ≠ (u5 : Value).ownBlock ∧ (k_ ≠ gb388 ∧ k_ ≠ g)))) (by (with_reducible repeat (first | apply Kd.V_alloc | apply Kd.V_drewN | apply Kd.V_drew)); exact HO_389000.out) (fun k_ hk_ => (⟨hk_, hk_.2.2.2⟩ : _ ∧ k_ ≠ g))) hk (fun _ h => h.2)) (fun _ h => h.1)); replace BK388 := zkb hk BK388 NB388_0; replace HK := zqt hk (zq1 HK GW388); replace HB := am (hb); replace HI0 := am (hi); clear hb hk hi) | ((with_reducible refine gate_callee (f := 73) rfl ?_); refine goesL_ (some 18) rfl rfl Try.func73 (by kernel_rfl) rfl #[.pointer (some ⟨g, 0, none⟩)] rfl zr ?_; (with_reducible refine (spec_l03Act.calls k1 g s0_0 t393 t394 t395 t396 t397 t398 t399 t400 w0 _ ?side1 ?side2 A8.out).mono ?_); (case side1 => exact i93_1 HI0 NB0_388); (case side2 => exact zb2 HB.out (IsS93.ge HI0.out) GE388.out); rintro e w13 ⟨rfl, hi, hb, hk⟩; refine ⟨_, rfl, ?_⟩; replace HO_5 := i93_r hk (show IsS93 w0 _ g s0_0 t393 t394 from (i93_1 HI0 NB0_388)) HO_5; replace HO_389000 := am (Kd.V_mono (Kd.V_keep (Kd.V_mono (ok := fun k_ => (((P1_0_ k_ ∨ w.heap.size ≤ k_)) ∧ (some k_ ≠ (u5 : Value).ownBlock ∧ (k_ ≠ gb388 ∧ k_ ≠ g)))) (by (with_reducible repeat (first | apply Kd.V_alloc | apply Kd.V_drewN | apply Kd.V_drew)); exact HO_389000.out) (fun k_ hk_ => (⟨hk_, hk_.2.2.2⟩ : _ ∧ k_ ≠ g))) hk (fun _ h => h.2)) (fun _ h => h.1)); replace BK388 := zkb hk BK388 NB388_0; replace HK := zqt hk (zq1 HK GW388); replace HB := am (hb); replace HI0 := am (hi); clear hb hk hi) | ((with_reducible refine gate_dst (N := 7) rfl ?_); refine box_event rfl (N := 7) rfl (cs := #[.int .i64 0, .string (⟨#[]⟩ : ByteArray), .string (⟨#[]⟩ : ByteArray), .string (⟨#[]⟩ : ByteArray)]) (t := 35) zrun ?_; intro gb401 hg w14 hbox hb; have BK401 := am (hbox); have GW401 := zks hg (zq1 HK GW388); have GE401 := am ((Nat.le_trans HW0.out (by rw [hg]; exact (keep_size (w := w) (g := g) (row := none) (zq1 HK GW388)) : w.heap.size ≤ gb401) : w0.heap.size ≤ gb401)); obtain ⟨NB388_401, NB401_388⟩ := zne hg BK388; have NB0_401 := i93_l hg (show IsS93 w0 _ g s0_0 t399 t400 from (i93_1 HI0 NB0_388)); have NB401_0 := i93_g hg (show IsS93 w0 _ g s0_0 t399 t400 from (i93_1 HI0 NB0_388)); replace HO_5 := am (Kd.R_below (Kd.R_elderB (rx HO_5.out) gb401 (Nat.le_of_eq hg.symm)) hb); replace HO_389000 := am (Kd.V_below (Kd.V_elderB (by (with_reducible repeat (first | apply Kd.V_alloc | apply Kd.V_drewN | apply Kd.V_drew)); exact HO_389000.out) gb401 (Nat.le_of_eq hg.symm)) hb); replace BK388 := zk hb BK388; replace HK := am (KeepBut.trans (zq1 HK GW388) (KeepBut.of_below hb g none) (.inl rfl)); replace HB := am (below_step ((zb2 HB.out (IsS93.ge HI0.out) GE388.out)) hb); replace HI0 := am (IsS93.below (i93_1 HI0 NB0_388) hb); clear hb hbox hg; obtain ⟨hnb15, hnc15⟩ := zn2 NB401_388; obtain ⟨hnb16, hnc16⟩ := zn2 NB401_0; obtain ⟨hcz17_0, hcz17_1, hcz17_2, hcz17_3, hfz17_0, hfz17_1, hfz17_2, hfz17_3⟩ := zc4 BK401.out; obtain ⟨hnb18, hnc18⟩ := zn2 NB388_0; obtain ⟨hcz19_0, hfz19_0⟩ := zc1 BK388.out; obtain ⟨Ao20, co20, eo20⟩ := Kd.V_slice HO_389000.out; subst eo20) | ((with_reducible refine gate_callee (f := 9) rfl ?_); refine goesL_ (some 22) rfl rfl Try.func9 (by kernel_rfl) rfl #[.agg #[.slice Ao20 x389000_1.length co20], .agg #[.int .i64 t395, .string t396, .string t397, .string t398]] rfl zr ?_; (with_reducible refine (spec_DoAct.calls k1 _ _ x389000_1 t395 t396 t397 t398 t402 true _ ?side1 ?side2 A9.out).mono ?_); (case side1 => refine (Kd.V_reads' (e := 66) (base := w.heap.size) (ok := fun k_ => (((P1_0_ k_ ∨ w.heap.size ≤ k_) ∧ (some k_ ≠ (u5 : Value).ownBlock ∧ (k_ ≠ gb388 ∧ k_ ≠ g))) ∧ k_ ≠ gb401)) (n := x389000_1.length) (c := co20) ?_).2.2; exact (by (with_reducible repeat (first | apply Kd.V_alloc | apply Kd.V_drewN | apply Kd.V_drew)); exact (Kd.V_mono (Kd.V_far (p := ⟨gb401, 3, none⟩) (Kd.V_far (p := ⟨gb401, 2, none⟩) (Kd.V_far (p := ⟨gb401, 1, none⟩) (Kd.V_far (p := ⟨gb401, 0, none⟩) (Kd.V_mono HO_389000.out (fun k_ hk => (⟨hk, hk.2⟩ : _ ∧ k_ ≠ gb401))) (fun _ hk => hk.2) (.int .i64 t395)) (fun _ hk => hk.2) (.string t396)) (fun _ hk => hk.2) (.string t397)) (fun _ hk => hk.2) (.string t398)) (fun _ h_ => h_.1)))); (case side2 => exact (Kd.V_reads' HO_389000.out).2.1); rintro e w21 ⟨v403, rfl, ho0, hb⟩; refine ⟨_, rfl, ?_⟩; have HO404 := am (Kd.R_lower (Kd.R_newM (M := fun k_ => (w.heap.size ≤ k_)) ho0 (keep_size (w := w) (g := g) (row := none) (zq2 HK GW388 GW401)) (fun k_ h_ => h_)) (keep_size (w := w) (g := g) (row := none) (zq2 HK GW388 GW401))); replace HO_5 := am (Kd.R_below (rx ((Kd.R_mono (Kd.R_far (p := ⟨gb401, 3, none⟩) (Kd.R_far (p := ⟨gb401, 2, none⟩) (Kd.R_far (p := ⟨gb401, 1, none⟩) (Kd.R_far (p := ⟨gb401, 0, none⟩) (Kd.R_mono HO_5.out (fun k_ hk => (⟨hk, hk.2⟩ : _ ∧ k_ ≠ gb401))) (fun _ hk => hk.2) (.int .i64 t395)) (fun _ hk => hk.2) (.string t396)) (fun _ hk => hk.2) (.string t397)) (fun _ hk => hk.2) (.string t398)) (fun _ h_ => h_.1)))) hb); replace HO_389000 := am (Kd.V_elder' (by (with_reducible repeat (first | apply Kd.V_alloc | apply Kd.V_drewN | apply Kd.V_drew)); exact (Kd.V_mono (Kd.V_far (p := ⟨gb401, 3, none⟩) (Kd.V_far (p := ⟨gb401, 2, none⟩) (Kd.V_far (p := ⟨gb401, 1, none⟩) (Kd.V_far (p := ⟨gb401, 0, none⟩) (Kd.V_mono HO_389000.out (fun k_ hk => (⟨hk, hk.2⟩ : _ ∧ k_ ≠ gb401))) (fun _ hk => hk.2) (.int .i64 t395)) (fun _ hk => hk.2) (.string t396)) (fun _ hk => hk.2) (.string t397)) (fun _ hk => hk.2) (.string t398)) (fun _ h_ => h_.1))) (Kd.R_base ho0) hb); replace BK388 := zh1 hb BK388 NB388_401; replace BK401 := am (blk_below (g := gb401) (o := .cells #[.int .i64 t395, .string t396, .string t397, .string t398] 35 (0, 0)) (zt3210 BK401.out) hb); replace HK := am (KeepBut.trans (zq2 HK GW388 GW401) (KeepBut.of_below hb g none) (.inl rfl)); replace HB := am (below_step ((zb3 HB.out (IsS93.ge HI0.out) GE388.out GE401.out)) hb); replace HI0 := am (IsS93.below (show IsS93 w0 ((((w14.setCell ⟨gb401, 0, none⟩ (.int .i64 t395)).setCell ⟨gb401, 1, none⟩ (.string t396)).setCell ⟨gb401, 2, none⟩ (.string t397)).setCell ⟨gb401, 3, none⟩ (.string t398)) g s0_0 t399 t400 from (i93_2 HI0 NB0_388 NB0_401)) hb); clear hb ho0) | ((with_reducible refine gate_dst (N := 8) rfl ?_); refine box_event rfl (N := 8) rfl (cs := #[.slice none 0 0]) (t := 31) zrun ?_; intro gb406 hg w22 hbox hb; have BK406 := am (hbox); have GW406 := zks hg (zq2 HK GW388 GW401); have GE406 := am ((Nat.le_trans HW0.out (by rw [hg]; exact (keep_size (w := w) (g := g) (row := none) (zq2 HK GW388 GW401)) : w.heap.size ≤ gb406) : w0.heap.size ≤ gb406)); obtain ⟨NB388_406, NB406_388⟩ := zne hg BK388; obtain ⟨NB401_406, NB406_401⟩ := zne hg BK401; have NB0_406 := i93_l hg (show IsS93 w0 _ g s0_0 t399 t400 from (i93_2 HI0 NB0_388 NB0_401)); have NB406_0 := i93_g hg (show IsS93 w0 _ g s0_0 t399 t400 from (i93_2 HI0 NB0_388 NB0_401)); replace HO_5 := zo hb HO_5; replace HO_389000 := am (Kd.V_below (Kd.V_elderB (by (with_reducible repeat (first | apply Kd.V_alloc | apply Kd.V_drewN | apply Kd.V_drew)); exact HO_389000.out) gb406 (Nat.le_of_eq hg.symm)) hb); replace HO404 := zo hb HO404; replace BK388 := zk hb BK388; replace BK401 := zk hb BK401; replace HK := am (KeepBut.trans (zq2 HK GW388 GW401) (KeepBut.of_below hb g none) (.inl rfl)); replace HB := am (below_step ((zb3 HB.out (IsS93.ge HI0.out) GE388.out GE401.out)) hb); replace HI0 := am (IsS93.below (i93_2 HI0 NB0_388 NB0_401) hb); clear hb hbox hg; obtain ⟨Ao23, co23, eo23⟩ := Kd.R_slice HO404.out; subst eo23; obtain ⟨hnb24, hnc24⟩ := zn2 NB406_388; obtain ⟨hnb25, hnc25⟩ := zn2 NB406_401; obtain ⟨hnb26, hnc26⟩ := zn2 NB406_0; obtain ⟨hcz27_0, hfz27_0⟩ := zc1 BK406.out; obtain ⟨hcz28_0, hcz28_1, hcz28_2, hcz28_3, hfz28_0, hfz28_1, hfz28_2, hfz28_3⟩ := zc4 BK401.out) | ((with_reducible refine gate_builtin (b := .append) (xs := #[.tmp 30, .tmp 32]) rfl ?_); at_builtin; refine Kd.R_append k35 w.heap.size rfl (.tmp 30) (.tmp 32) 44 35 (.agg #[(.int .i64 0), (.string ⟨#[]⟩), (.string ⟨#[]⟩), (.string ⟨#[]⟩)]) 56 rfl Try.underlying44 info35 rfl (by decide) (by omega) u5 x5_1 (⟨t395, t396, t397, t398⟩ : S35) [.int .i64 t395, .string t396, .string t397, .string t398] (fun k_ => (w.heap.size ≤ k_) ∧ k_ ≠ gb401) (fun _ => False) rfl (by first | (go_simp; done) | (go_simp; rfl)) ?aP (fun _ hk => hk.elim) ?aF ?aO (Below.refl _ _) ?aS ?aL ?_; (case aP => exact k35_mkM _ _ _ (⟨t395, t396, t397, t398⟩ : S35)); (case aF => exact (fun k_ hk => ⟨(Nat.le_trans (keep_size (w := w) (g := g) (row := none) (zq3 HK GW388 GW401 GW406)) hk), Kd.freshB (g := gb401) (o := .cells #[.int .i64 t395, .string t396, .string t397, .string t398] 35 (0, 0)) (zf1 BK401.out NB401_406.out) k_ hk⟩)); (case aO => exact (rx (Kd.R_mono (Kd.R_far (p := ⟨gb406, 0, none⟩) (Kd.R_types HO_5.out BK406.out (by decide)) (fun _ hk => hk.2) (.slice Ao23 t402.length co23)) (fun _ hk => ⟨hk.1.1, hk.1.2⟩)))); (case aS => exact (keep_size (w := w) (g := g) (row := none) (zq3 HK GW388 GW401 GW406))); (case aL => have := LMc11.out; omega); intro v408 w29 ho hb hg hat; rw [← Ny407.out] at ho; have HO409 := am (ho); replace HO_389000 := am (Kd.V_afterv (ok := (fun k_ => (P1_0_ k_ ∨ w.heap.size ≤ k_) ∧ some k_ ≠ (.slice Ao23 t402.length co23 : Value).ownBlock ∧ k_ ≠ gb388 ∧ k_ ≠ g ∧ k_ ≠ gb401 ∧ k_ ≠ gb406)) (by (with_reducible repeat (first | apply Kd.V_alloc | apply Kd.V_drewN | apply Kd.V_drew)); exact Kd.V_mono (Kd.V_far (p := ⟨gb406, 0, none⟩) (Kd.V_mono HO_389000.out (fun k_ hk => (⟨hk, hk.2⟩ : _ ∧ k_ ≠ gb406))) (fun _ hk => hk.2) (.slice Ao23 t402.length co23)) (fun _ hk => ⟨⟨hk.1.1.1.1.1, ⟨hk.1.1.2, ⟨hk.1.1.1.1.2.2.1, ⟨hk.1.1.1.1.2.2.2, ⟨hk.1.1.1.2, hk.1.2⟩⟩⟩⟩⟩, hk.1.1.1.1.2.1⟩)) hg hat); replace BK388 := am (blk_grown (g := gb388) (o := .cells #[.slice Ao20 x389000_1.length co20] 31 (0, 0)) (zf1 BK388.out NB388_406.out) hg (Kd.R_ne HO_5.out BK388.out (by decide))); replace BK401 := am (blk_grown (g := gb401) (o := .cells #[.int .i64 t395, .string t396, .string t397, .string t398] 35 (0, 0)) (zf1 BK401.out NB401_406.out) hg (Kd.R_away HO_5.out (fun _ hk => hk.2))); replace HO404 := am (Kd.R_over' (rx ((zrf 0 (.slice Ao23 t402.length co23) HO404 BK406))) (Kd.R_typed (rx ((zrf 0 (.slice Ao23 t402.length co23) HO_5 BK406)))) (by decide) hg); replace BK406 := am (blk_grown (g := gb406) (o := .cells #[.slice Ao23 t402.length co23] 31 (0, 0)) (zp0 BK406.out) hg (Kd.R_ne HO_5.out BK406.out (by decide))); replace HB := am (below_weaken ((zb4 HB.out (IsS93.ge HI0.out) GE388.out GE401.out GE406.out)) HL.out hb); replace HI0 := am (IsS93.grown (show IsS93 w0 _ g s0_0 t399 t400 from (i93_3 HI0 NB0_388 NB0_401 NB0_406)) hg (IsS93.own_ne HI0.out HO_5.out (by decide))); replace HK := am (KeepBut.trans (zq3 HK GW388 GW401 GW406) (KeepBut.of_grown hg g) (Kd.R_base2 HO_5.out)); clear HO_5; clear ho hb hg hat; obtain ⟨hcz30_0, hfz30_0⟩ := zc1 BK406.out; obtain ⟨hcz31_0, hfz31_0⟩ := zc1 BK388.out))
      go_roundg k1
      case measure => have := HK1.out; omega
      case rel => exact ⟨(y407), (wrap64 (x6_1 + 1)), (t399), (t400), (t402), (.slice Ao23 t402.length co23), (by first | rfl | (simp; done) | (simp [*]; done)), H', ⟨by have := HK1.out; omega⟩, ⟨rx (Kd.R_mono (Kd.R_far (p := ⟨gb388, 0, none⟩) (Kd.R_types HO409.out BK388.out (by decide)) (fun _ hk => hk.2) (.slice Ao23 t402.length co23)) (fun _ hk => hk.1.1))⟩, ⟨Kd.V_mono (Kd.R_V (rx (Kd.R_mono (ok' := fun k_ => (w.heap.size ≤ k_) ∧ some k_ ≠ (v408 : Value).ownBlock ∧ k_ ≠ gb388 ∧ k_ ≠ g) (Kd.R_far (p := ⟨gb388, 0, none⟩) (Kd.R_types (IsS93.apart HI0.out (Kd.R_types (Kd.R_apart' HO404.out (Kd.R_typed HO409.out) (by decide)) BK388.out (by decide)) (by decide)) BK388.out (by decide)) (fun _ hk => hk.2) (.slice Ao23 t402.length co23)) (fun _ hk => ⟨hk.1.1.1.1.1, ⟨hk.1.1.1.2, ⟨hk.1.1.2, hk.1.2⟩⟩⟩)))) (fun k_ hk => by first | exact ⟨(.inr (hk.1)), hk.2⟩ | exact (.inr (hk)))⟩, ⟨by (with_reducible repeat (first | refine blk_drewN ?_ _ | refine blk_drew ?_ | refine blk_alloc ?_ _)); refine blk_put (cs := #[.slice Ao20 x389000_1.length co20]) ?_ 0 _ rfl; (with_reducible repeat (first | refine blk_drewN ?_ _ | refine blk_drew ?_ | refine blk_alloc ?_ _)); exact BK388.out⟩, ⟨(i93_3 HI0 NB0_388 NB0_401 NB0_406)⟩, ⟨(zq3 HK GW388 GW401 GW406)⟩, ⟨(zb4 HB.out (IsS93.ge HI0.out) GE388.out GE401.out GE406.out)⟩⟩
     ·rw [if_neg c11] at H
      exact absurd H (by simp)
    ·replace c10 := Bool.eq_false_iff.mpr c10
     subst c10
     have H1 : ((spec_l01Once.f s0_0 t399 t400 20).bind fun bt410 => (if bt410.1 = true then (if x5_1.length < 2513169434916 then (spec_l03Acts.l0 k1 (x5_1 ++ [(⟨t395, t396, t397, t398⟩ : S35)]) (wrap64 (x6_1 + 1)) s0_0 bt410.2.1 bt410.2.2 t402) else (none)) else (spec_l03Acts.l0 k1 x5_1 (wrap64 (x6_1 + 1)) s0_0 bt410.2.1 bt410.2.2 x389000_1))) = some (r1, r2, r3) := by rw [if_neg (show ¬ (false = true) by decide)] at H; exact H
     clear H
     have H := H1
     clear H1
     replace H := Option.bind_eq_some_iff.mp H
     obtain ⟨⟨t410, t411, t412⟩, A320, H⟩ := H
     try dsimp only at H
     have A32 := Aside0.mk A320
     clear A320
     by_cases c33 : t410 = true
     ·subst c33
      have H1 : (if x5_1.length < 2513169434916 then (spec_l03Acts.l0 k1 (x5_1 ++ [(⟨t395, t396, t397, t398⟩ : S35)]) (wrap64 (x6_1 + 1)) s0_0 t411 t412 t402) else (none)) = some (r1, r2, r3) := by rw [if_pos rfl] at H; exact H
      clear H
      have H := H1
      clear H1
      by_cases c34 : x5_1.length < 2513169434916
      ·rw [if_pos c34] at H
       have LMc34 := Aside0.mk c34
       clear c34
       obtain ⟨y413, hy413⟩ : ∃ y_ : List (S35), y_ = (x5_1 ++ [(⟨t395, t396, t397, t398⟩ : S35)]) := ⟨_, rfl⟩
       replace H : (spec_l03Acts.l0 k1 y413 (wrap64 (x6_1 + 1)) s0_0 t411 t412 t402) = some (r1, r2, r3) := by first | (rw [hy413]; with_reducible exact H) | (have H2_ := (Option.bind_some _ _).symm.trans H; rw [hy413]; with_reducible exact H2_) | (have H2_ := (Option.bind_some _ _).symm.trans H; with_reducible exact H2_) | with_reducible exact H | (rw [hy413]; exact H) | exact H
       have Ny413 := Aside0.mk hy413
       clear hy413
       have H' := Aside0.mk H
       clear H
       go_wp2_with (first | ((with_reducible refine gate_callee (f := 66) rfl ?_); refine goesL_ (some 13) rfl rfl Try.func66 (by kernel_rfl) rfl #[.pointer (some ⟨g, 0, none⟩), .int .i64 9] rfl zr ?_; (with_reducible refine (spec_l01Below.calls g s0_0 x1001_1 x1002_1 9 t392 t393 t394 w0 _ ?side1 ?side2 A6.out).mono ?_); (case side1 => exact i93_1 HI0 NB0_388); (case side2 => exact zb2 HB.out (IsS93.ge HI0.out) GE388.out); rintro e w35 ⟨rfl, hi, hb, hk⟩; refine ⟨_, rfl, ?_⟩; replace HO_5 := i93_r hk (show IsS93 w0 _ g s0_0 x1001_1 x1002_1 from (i93_1 HI0 NB0_388)) HO_5; replace HO_389000 := am (Kd.V_mono (Kd.V_keep (Kd.V_mono (ok := fun k_ => (((P1_0_ k_ ∨ w.heap.size ≤ k_)) ∧ (some k_ ≠ (u5 : Value).ownBlock ∧ (k_ ≠ gb388 ∧ k_ ≠ g)))) (by (with_reducible repeat (first | apply Kd.V_alloc | apply Kd.V_drewN | apply Kd.V_drew)); exact HO_389000.out) (fun k_ hk_ => (⟨hk_, hk_.2.2.2⟩ : _ ∧ k_ ≠ g))) hk (fun _ h => h.2)) (fun _ h => h.1)); replace BK388 := zkb hk BK388 NB388_0; replace HK := zqt hk (zq1 HK GW388); replace HB := am (hb); replace HI0 := am (hi); clear hb hk hi) | ((with_reducible refine gate_callee (f := 73) rfl ?_); refine goesL_ (some 18) rfl rfl Try.func73 (by kernel_rfl) rfl #[.pointer (some ⟨g, 0, none⟩)] rfl zr ?_; (with_reducible refine (spec_l03Act.calls k1 g s0_0 t393 t394 t395 t396 t397 t398 t399 t400 w0 _ ?side1 ?side2 A8.out).mono ?_); (case side1 => exact i93_1 HI0 NB0_388); (case side2 => exact zb2 HB.out (IsS93.ge HI0.out) GE388.out); rintro e w36 ⟨rfl, hi, hb, hk⟩; refine ⟨_, rfl, ?_⟩; replace HO_5 := i93_r hk (show IsS93 w0 _ g s0_0 t393 t394 from (i93_1 HI0 NB0_388)) HO_5; replace HO_389000 := am (Kd.V_mono (Kd.V_keep (Kd.V_mono (ok := fun k_ => (((P1_0_ k_ ∨ w.heap.size ≤ k_)) ∧ (some k_ ≠ (u5 : Value).ownBlock ∧ (k_ ≠ gb388 ∧ k_ ≠ g)))) (by (with_reducible repeat (first | apply Kd.V_alloc | apply Kd.V_drewN | apply Kd.V_drew)); exact HO_389000.out) (fun k_ hk_ => (⟨hk_, hk_.2.2.2⟩ : _ ∧ k_ ≠ g))) hk (fun _ h => h.2)) (fun _ h => h.1)); replace BK388 := zkb hk BK388 NB388_0; replace HK := zqt hk (zq1 HK GW388); replace HB := am (hb); replace HI0 := am (hi); clear hb hk hi) | ((with_reducible refine gate_dst (N := 7) rfl ?_); refine box_event rfl (N := 7) rfl (cs := #[.int .i64 0, .string (⟨#[]⟩ : ByteArray), .string (⟨#[]⟩ : ByteArray), .string (⟨#[]⟩ : ByteArray)]) (t := 35) zrun ?_; intro gb401 hg w37 hbox hb; have BK401 := am (hbox); have GW401 := zks hg (zq1 HK GW388); have GE401 := am ((Nat.le_trans HW0.out (by rw [hg]; exact (keep_size (w := w) (g := g) (row := none) (zq1 HK GW388)) : w.heap.size ≤ gb401) : w0.heap.size ≤ gb401)); obtain ⟨NB388_401, NB401_388⟩ := zne hg BK388; have NB0_401 := i93_l hg (show IsS93 w0 _ g s0_0 t399 t400 from (i93_1 HI0 NB0_388)); have NB401_0 := i93_g hg (show IsS93 w0 _ g s0_0 t399 t400 from (i93_1 HI0 NB0_388)); replace HO_5 := am (Kd.R_below (Kd.R_elderB (rx HO_5.out) gb401 (Nat.le_of_eq hg.symm)) hb); replace HO_389000 := am (Kd.V_below (Kd.V_elderB (by (with_reducible repeat (first | apply Kd.V_alloc | apply Kd.V_drewN | apply Kd.V_drew)); exact HO_389000.out) gb401 (Nat.le_of_eq hg.symm)) hb); replace BK388 := zk hb BK388; replace HK := am (KeepBut.trans (zq1 HK GW388) (KeepBut.of_below hb g none) (.inl rfl)); replace HB := am (below_step ((zb2 HB.out (IsS93.ge HI0.out) GE388.out)) hb); replace HI0 := am (IsS93.below (i93_1 HI0 NB0_388) hb); clear hb hbox hg; obtain ⟨hnb38, hnc38⟩ := zn2 NB401_388; obtain ⟨hnb39, hnc39⟩ := zn2 NB401_0; obtain ⟨hcz40_0, hcz40_1, hcz40_2, hcz40_3, hfz40_0, hfz40_1, hfz40_2, hfz40_3⟩ := zc4 BK401.out; obtain ⟨hnb41, hnc41⟩ := zn2 NB388_0; obtain ⟨hcz42_0, hfz42_0⟩ := zc1 BK388.out; obtain ⟨Ao43, co43, eo43⟩ := Kd.V_slice HO_389000.out; subst eo43) | ((with_reducible refine gate_callee (f := 9) rfl ?_); refine goesL_ (some 22) rfl rfl Try.func9 (by kernel_rfl) rfl #[.agg #[.slice Ao43 x389000_1.length co43], .agg #[.int .i64 t395, .string t396, .string t397, .string t398]] rfl zr ?_; (with_reducible refine (spec_DoAct.calls k1 _ _ x389000_1 t395 t396 t397 t398 t402 false _ ?side1 ?side2 A9.out).mono ?_); (case side1 => refine (Kd.V_reads' (e := 66) (base := w.heap.size) (ok := fun k_ => (((P1_0_ k_ ∨ w.heap.size ≤ k_) ∧ (some k_ ≠ (u5 : Value).ownBlock ∧ (k_ ≠ gb388 ∧ k_ ≠ g))) ∧ k_ ≠ gb401)) (n := x389000_1.length) (c := co43) ?_).2.2; exact (by (with_reducible repeat (first | apply Kd.V_alloc | apply Kd.V_drewN | apply Kd.V_drew)); exact (Kd.V_mono (Kd.V_far (p := ⟨gb401, 3, none⟩) (Kd.V_far (p := ⟨gb401, 2, none⟩) (Kd.V_far (p := ⟨gb401, 1, none⟩) (Kd.V_far (p := ⟨gb401, 0, none⟩) (Kd.V_mono HO_389000.out (fun k_ hk => (⟨hk, hk.2⟩ : _ ∧ k_ ≠ gb401))) (fun _ hk => hk.2) (.int .i64 t395)) (fun _ hk => hk.2) (.string t396)) (fun _ hk => hk.2) (.string t397)) (fun _ hk => hk.2) (.string t398)) (fun _ h_ => h_.1)))); (case side2 => exact (Kd.V_reads' HO_389000.out).2.1); rintro e w44 ⟨v403, rfl, ho0, hb⟩; refine ⟨_, rfl, ?_⟩; have HO404 := am (Kd.R_lower (Kd.R_newM (M := fun k_ => (w.heap.size ≤ k_)) ho0 (keep_size (w := w) (g := g) (row := none) (zq2 HK GW388 GW401)) (fun k_ h_ => h_)) (keep_size (w := w) (g := g) (row := none) (zq2 HK GW388 GW401))); replace HO_5 := am (Kd.R_below (rx ((Kd.R_mono (Kd.R_far (p := ⟨gb401, 3, none⟩) (Kd.R_far (p := ⟨gb401, 2, none⟩) (Kd.R_far (p := ⟨gb401, 1, none⟩) (Kd.R_far (p := ⟨gb401, 0, none⟩) (Kd.R_mono HO_5.out (fun k_ hk => (⟨hk, hk.2⟩ : _ ∧ k_ ≠ gb401))) (fun _ hk => hk.2) (.int .i64 t395)) (fun _ hk => hk.2) (.string t396)) (fun _ hk => hk.2) (.string t397)) (fun _ hk => hk.2) (.string t398)) (fun _ h_ => h_.1)))) hb); replace HO_389000 := am (Kd.V_elder' (by (with_reducible repeat (first | apply Kd.V_alloc | apply Kd.V_drewN | apply Kd.V_drew)); exact (Kd.V_mono (Kd.V_far (p := ⟨gb401, 3, none⟩) (Kd.V_far (p := ⟨gb401, 2, none⟩) (Kd.V_far (p := ⟨gb401, 1, none⟩) (Kd.V_far (p := ⟨gb401, 0, none⟩) (Kd.V_mono HO_389000.out (fun k_ hk => (⟨hk, hk.2⟩ : _ ∧ k_ ≠ gb401))) (fun _ hk => hk.2) (.int .i64 t395)) (fun _ hk => hk.2) (.string t396)) (fun _ hk => hk.2) (.string t397)) (fun _ hk => hk.2) (.string t398)) (fun _ h_ => h_.1))) (Kd.R_base ho0) hb); replace BK388 := zh1 hb BK388 NB388_401; replace BK401 := am (blk_below (g := gb401) (o := .cells #[.int .i64 t395, .string t396, .string t397, .string t398] 35 (0, 0)) (zt3210 BK401.out) hb); replace HK := am (KeepBut.trans (zq2 HK GW388 GW401) (KeepBut.of_below hb g none) (.inl rfl)); replace HB := am (below_step ((zb3 HB.out (IsS93.ge HI0.out) GE388.out GE401.out)) hb); replace HI0 := am (IsS93.below (show IsS93 w0 ((((w37.setCell ⟨gb401, 0, none⟩ (.int .i64 t395)).setCell ⟨gb401, 1, none⟩ (.string t396)).setCell ⟨gb401, 2, none⟩ (.string t397)).setCell ⟨gb401, 3, none⟩ (.string t398)) g s0_0 t399 t400 from (i93_2 HI0 NB0_388 NB0_401)) hb); clear hb ho0) | ((with_reducible refine gate_dst (N := 8) rfl ?_); refine box_event rfl (N := 8) rfl (cs := #[.slice none 0 0]) (t := 31) zrun ?_; intro gb406 hg w45 hbox hb; have BK406 := am (hbox); have GW406 := zks hg (zq2 HK GW388 GW401); have GE406 := am ((Nat.le_trans HW0.out (by rw [hg]; exact (keep_size (w := w) (g := g) (row := none) (zq2 HK GW388 GW401)) : w.heap.size ≤ gb406) : w0.heap.size ≤ gb406)); obtain ⟨NB388_406, NB406_388⟩ := zne hg BK388; obtain ⟨NB401_406, NB406_401⟩ := zne hg BK401; have NB0_406 := i93_l hg (show IsS93 w0 _ g s0_0 t399 t400 from (i93_2 HI0 NB0_388 NB0_401)); have NB406_0 := i93_g hg (show IsS93 w0 _ g s0_0 t399 t400 from (i93_2 HI0 NB0_388 NB0_401)); replace HO_5 := zo hb HO_5; replace HO_389000 := am (Kd.V_below (Kd.V_elderB (by (with_reducible repeat (first | apply Kd.V_alloc | apply Kd.V_drewN | apply Kd.V_drew)); exact HO_389000.out) gb406 (Nat.le_of_eq hg.symm)) hb); replace HO404 := zo hb HO404; replace BK388 := zk hb BK388; replace BK401 := zk hb BK401; replace HK := am (KeepBut.trans (zq2 HK GW388 GW401) (KeepBut.of_below hb g none) (.inl rfl)); replace HB := am (below_step ((zb3 HB.out (IsS93.ge HI0.out) GE388.out GE401.out)) hb); replace HI0 := am (IsS93.below (i93_2 HI0 NB0_388 NB0_401) hb); clear hb hbox hg; obtain ⟨Ao46, co46, eo46⟩ := Kd.R_slice HO404.out; subst eo46; obtain ⟨hnb47, hnc47⟩ := zn2 NB406_388; obtain ⟨hnb48, hnc48⟩ := zn2 NB406_401; obtain ⟨hnb49, hnc49⟩ := zn2 NB406_0; obtain ⟨hcz50_0, hfz50_0⟩ := zc1 BK406.out) | (go_at_call 74; (with_reducible refine (spec_l01Once.calls g s0_0 t399 t400 20 true t411 t412 w0 _ ?side1 ?side2 A32.out).mono ?_); (case side1 => exact i93_3 HI0 NB0_388 NB0_401 NB0_406); (case side2 => exact zb4 HB.out (IsS93.ge HI0.out) GE388.out GE401.out GE406.out); rintro e w51 ⟨rfl, hi, hb, hk⟩; replace HO_5 := am (Kd.R_mono (Kd.R_keep (IsS93.apart (show IsS93 w0 _ g s0_0 t399 t400 from (i93_3 HI0 NB0_388 NB0_401 NB0_406)) (rx ((zrf 0 (.slice Ao46 t402.length co46) HO_5 BK406))) (by decide)) hk (fun _ h => h.2)) (fun _ h => h.1)); replace HO_389000 := am (Kd.V_mono (Kd.V_keep (Kd.V_mono (ok := fun k_ => ((((((P1_0_ k_ ∨ w.heap.size ≤ k_)) ∧ (some k_ ≠ (u5 : Value).ownBlock ∧ (k_ ≠ gb388 ∧ k_ ≠ g))) ∧ k_ ≠ gb401) ∧ some k_ ≠ (.slice Ao46 t402.length co46 : Value).ownBlock) ∧ k_ ≠ gb406)) (by (with_reducible repeat (first | apply Kd.V_alloc | apply Kd.V_drewN | apply Kd.V_drew)); exact (Kd.V_mono (Kd.V_far (p := ⟨gb406, 0, none⟩) (Kd.V_mono HO_389000.out (fun k_ hk => (⟨hk, hk.2⟩ : _ ∧ k_ ≠ gb406))) (fun _ hk => hk.2) (.slice Ao46 t402.length co46)) (fun _ h_ => h_.1))) (fun k_ hk_ => (⟨hk_, hk_.1.1.1.2.2.2⟩ : _ ∧ k_ ≠ g))) hk (fun _ h => h.2)) (fun _ h => h.1)); replace BK388 := am (KeepBut.blk hk (g' := gb388) (o := .cells #[.slice Ao43 x389000_1.length co43] 31 (0, 0)) (zf1 BK388.out NB388_406.out) NB388_0.out (by simp)); replace BK401 := am (KeepBut.blk hk (g' := gb401) (o := .cells #[.int .i64 t395, .string t396, .string t397, .string t398] 35 (0, 0)) (zf1 BK401.out NB401_406.out) NB401_0.out (by simp)); replace HO404 := am (Kd.R_mono (Kd.R_keep (IsS93.apart (show IsS93 w0 _ g s0_0 t399 t400 from (i93_3 HI0 NB0_388 NB0_401 NB0_406)) (rx ((zrf 0 (.slice Ao46 t402.length co46) HO404 BK406))) (by decide)) hk (fun _ h => h.2)) (fun _ h => h.1)); replace BK406 := am (KeepBut.blk hk (g' := gb406) (o := .cells #[.slice Ao46 t402.length co46] 31 (0, 0)) (zp0 BK406.out) NB406_0.out (by simp)); replace HK := zqt hk (zq3 HK GW388 GW401 GW406); replace HB := am (hb); replace HI0 := am (hi); clear hb hk hi; obtain ⟨hcz52_0, hcz52_1, hcz52_2, hcz52_3, hfz52_0, hfz52_1, hfz52_2, hfz52_3⟩ := zc4 BK401.out) | ((with_reducible refine gate_builtin (b := .append) (xs := #[.tmp 30, .tmp 32]) rfl ?_); at_builtin; refine Kd.R_append k35 w.heap.size rfl (.tmp 30) (.tmp 32) 44 35 (.agg #[(.int .i64 0), (.string ⟨#[]⟩), (.string ⟨#[]⟩), (.string ⟨#[]⟩)]) 56 rfl Try.underlying44 info35 rfl (by decide) (by omega) u5 x5_1 (⟨t395, t396, t397, t398⟩ : S35) [.int .i64 t395, .string t396, .string t397, .string t398] (fun k_ => (w.heap.size ≤ k_) ∧ k_ ≠ gb401) (fun _ => False) rfl rfl ?aP (fun _ hk => hk.elim) ?aF ?aO (Below.refl _ _) ?aS ?aL ?_; (case aP => exact k35_mkM _ _ _ (⟨t395, t396, t397, t398⟩ : S35)); (case aF => exact (fun k_ hk => ⟨(Nat.le_trans (keep_size (w := w) (g := g) (row := none) (zq3 HK GW388 GW401 GW406)) hk), Kd.freshB (g := gb401) (o := .cells #[.int .i64 t395, .string t396, .string t397, .string t398] 35 (0, 0)) (kx BK401.out) k_ hk⟩)); (case aO => exact (rx HO_5.out)); (case aS => exact (keep_size (w := w) (g := g) (row := none) (zq3 HK GW388 GW401 GW406))); (case aL => have := LMc34.out; omega); intro v414 w53 ho hb hg hat; rw [← Ny413.out] at ho; have HO415 := am (ho); replace HO_389000 := am (Kd.V_afterv (ok := (fun k_ => (P1_0_ k_ ∨ w.heap.size ≤ k_) ∧ some k_ ≠ (.slice Ao46 t402.length co46 : Value).ownBlock ∧ k_ ≠ gb388 ∧ k_ ≠ g ∧ k_ ≠ gb401 ∧ k_ ≠ gb406)) (by (with_reducible repeat (first | apply Kd.V_alloc | apply Kd.V_drewN | apply Kd.V_drew)); exact Kd.V_mono HO_389000.out (fun _ hk => ⟨⟨hk.1.1.1.1, ⟨hk.1.2, ⟨hk.1.1.1.2.2.1, ⟨hk.1.1.1.2.2.2, ⟨hk.1.1.2, hk.2⟩⟩⟩⟩⟩, hk.1.1.1.2.1⟩)) hg hat); replace BK388 := am (blk_grown (g := gb388) (o := .cells #[.slice Ao43 x389000_1.length co43] 31 (0, 0)) (kx BK388.out) hg (Kd.R_ne HO_5.out BK388.out (by decide))); replace BK401 := am (blk_grown (g := gb401) (o := .cells #[.int .i64 t395, .string t396, .string t397, .string t398] 35 (0, 0)) (kx BK401.out) hg (Kd.R_away HO_5.out (fun _ hk => hk.2))); replace HO404 := am (Kd.R_over' (rx HO404.out) (Kd.R_typed (rx HO_5.out)) (by decide) hg); replace BK406 := am (blk_grown (g := gb406) (o := .cells #[.slice Ao46 t402.length co46] 31 (0, 0)) (kx BK406.out) hg (Kd.R_ne HO_5.out BK406.out (by decide))); replace HB := am (below_weaken ((zb4 HB.out (IsS93.ge HI0.out) GE388.out GE401.out GE406.out)) HL.out hb); replace HI0 := am (IsS93.grown (i93_3 HI0 NB0_388 NB0_401 NB0_406) hg (IsS93.own_ne HI0.out HO_5.out (by decide))); replace HK := am (KeepBut.trans (zq3 HK GW388 GW401 GW406) (KeepBut.of_grown hg g) (Kd.R_base2 HO_5.out)); clear HO_5; clear ho hb hg hat; obtain ⟨hcz54_0, hfz54_0⟩ := zc1 BK406.out; obtain ⟨hcz55_0, hfz55_0⟩ := zc1 BK388.out))
       go_roundg k1
       case measure => have := HK1.out; omega
       case rel => exact ⟨(y413), (wrap64 (x6_1 + 1)), (t411), (t412), (t402), (.slice Ao46 t402.length co46), (by first | rfl | (simp; done) | (simp [*]; done)), H', ⟨by have := HK1.out; omega⟩, ⟨rx (Kd.R_mono (Kd.R_far (p := ⟨gb388, 0, none⟩) (Kd.R_types HO415.out BK388.out (by decide)) (fun _ hk => hk.2) (.slice Ao46 t402.length co46)) (fun _ hk => hk.1.1))⟩, ⟨Kd.V_mono (Kd.R_V (rx (Kd.R_mono (ok' := fun k_ => (w.heap.size ≤ k_) ∧ some k_ ≠ (v414 : Value).ownBlock ∧ k_ ≠ gb388 ∧ k_ ≠ g) (Kd.R_far (p := ⟨gb388, 0, none⟩) (Kd.R_types (IsS93.apart HI0.out (Kd.R_types (Kd.R_apart' HO404.out (Kd.R_typed HO415.out) (by decide)) BK388.out (by decide)) (by decide)) BK388.out (by decide)) (fun _ hk => hk.2) (.slice Ao46 t402.length co46)) (fun _ hk => ⟨hk.1.1.1.1.1, ⟨hk.1.1.1.2, ⟨hk.1.1.2, hk.1.2⟩⟩⟩)))) (fun k_ hk => by first | exact ⟨(.inr (hk.1)), hk.2⟩ | exact (.inr (hk)))⟩, ⟨by (with_reducible repeat (first | refine blk_drewN ?_ _ | refine blk_drew ?_ | refine blk_alloc ?_ _)); refine blk_put (cs := #[.slice Ao43 x389000_1.length co43]) ?_ 0 _ rfl; (with_reducible repeat (first | refine blk_drewN ?_ _ | refine blk_drew ?_ | refine blk_alloc ?_ _)); exact BK388.out⟩, ⟨(i93_3 HI0 NB0_388 NB0_401 NB0_406)⟩, ⟨(zq3 HK GW388 GW401 GW406)⟩, ⟨(zb4 HB.out (IsS93.ge HI0.out) GE388.out GE401.out GE406.out)⟩⟩
      ·rw [if_neg c34] at H
       exact absurd H (by simp)
     ·replace c33 := Bool.eq_false_iff.mpr c33
      subst c33
      have H1 : (spec_l03Acts.l0 k1 x5_1 (wrap64 (x6_1 + 1)) s0_0 t411 t412 x389000_1) = some (r1, r2, r3) := by rw [if_neg (show ¬ (false = true) by decide)] at H; exact H
      clear H
      have H := H1
      clear H1
      have H' := Aside0.mk H
      clear H
      go_wp2_with (first | ((with_reducible refine gate_callee (f := 66) rfl ?_); refine goesL_ (some 13) rfl rfl Try.func66 (by kernel_rfl) rfl #[.pointer (some ⟨g, 0, none⟩), .int .i64 9] rfl zr ?_; (with_reducible refine (spec_l01Below.calls g s0_0 x1001_1 x1002_1 9 t392 t393 t394 w0 _ ?side1 ?side2 A6.out).mono ?_); (case side1 => exact i93_1 HI0 NB0_388); (case side2 => exact zb2 HB.out (IsS93.ge HI0.out) GE388.out); rintro e w56 ⟨rfl, hi, hb, hk⟩; refine ⟨_, rfl, ?_⟩; replace HO_5 := i93_r hk (show IsS93 w0 _ g s0_0 x1001_1 x1002_1 from (i93_1 HI0 NB0_388)) HO_5; replace HO_389000 := am (Kd.V_mono (Kd.V_keep (Kd.V_mono (ok := fun k_ => (((P1_0_ k_ ∨ w.heap.size ≤ k_)) ∧ (some k_ ≠ (u5 : Value).ownBlock ∧ (k_ ≠ gb388 ∧ k_ ≠ g)))) (by (with_reducible repeat (first | apply Kd.V_alloc | apply Kd.V_drewN | apply Kd.V_drew)); exact HO_389000.out) (fun k_ hk_ => (⟨hk_, hk_.2.2.2⟩ : _ ∧ k_ ≠ g))) hk (fun _ h => h.2)) (fun _ h => h.1)); replace BK388 := zkb hk BK388 NB388_0; replace HK := zqt hk (zq1 HK GW388); replace HB := am (hb); replace HI0 := am (hi); clear hb hk hi) | ((with_reducible refine gate_callee (f := 73) rfl ?_); refine goesL_ (some 18) rfl rfl Try.func73 (by kernel_rfl) rfl #[.pointer (some ⟨g, 0, none⟩)] rfl zr ?_; (with_reducible refine (spec_l03Act.calls k1 g s0_0 t393 t394 t395 t396 t397 t398 t399 t400 w0 _ ?side1 ?side2 A8.out).mono ?_); (case side1 => exact i93_1 HI0 NB0_388); (case side2 => exact zb2 HB.out (IsS93.ge HI0.out) GE388.out); rintro e w57 ⟨rfl, hi, hb, hk⟩; refine ⟨_, rfl, ?_⟩; replace HO_5 := i93_r hk (show IsS93 w0 _ g s0_0 t393 t394 from (i93_1 HI0 NB0_388)) HO_5; replace HO_389000 := am (Kd.V_mono (Kd.V_keep (Kd.V_mono (ok := fun k_ => (((P1_0_ k_ ∨ w.heap.size ≤ k_)) ∧ (some k_ ≠ (u5 : Value).ownBlock ∧ (k_ ≠ gb388 ∧ k_ ≠ g)))) (by (with_reducible repeat (first | apply Kd.V_alloc | apply Kd.V_drewN | apply Kd.V_drew)); exact HO_389000.out) (fun k_ hk_ => (⟨hk_, hk_.2.2.2⟩ : _ ∧ k_ ≠ g))) hk (fun _ h => h.2)) (fun _ h => h.1)); replace BK388 := zkb hk BK388 NB388_0; replace HK := zqt hk (zq1 HK GW388); replace HB := am (hb); replace HI0 := am (hi); clear hb hk hi) | ((with_reducible refine gate_dst (N := 7) rfl ?_); refine box_event rfl (N := 7) rfl (cs := #[.int .i64 0, .string (⟨#[]⟩ : ByteArray), .string (⟨#[]⟩ : ByteArray), .string (⟨#[]⟩ : ByteArray)]) (t := 35) zrun ?_; intro gb401 hg w58 hbox hb; have BK401 := am (hbox); have GW401 := zks hg (zq1 HK GW388); have GE401 := am ((Nat.le_trans HW0.out (by rw [hg]; exact (keep_size (w := w) (g := g) (row := none) (zq1 HK GW388)) : w.heap.size ≤ gb401) : w0.heap.size ≤ gb401)); obtain ⟨NB388_401, NB401_388⟩ := zne hg BK388; have NB0_401 := i93_l hg (show IsS93 w0 _ g s0_0 t399 t400 from (i93_1 HI0 NB0_388)); have NB401_0 := i93_g hg (show IsS93 w0 _ g s0_0 t399 t400 from (i93_1 HI0 NB0_388)); replace HO_5 := am (Kd.R_below (Kd.R_elderB (rx HO_5.out) gb401 (Nat.le_of_eq hg.symm)) hb); replace HO_389000 := am (Kd.V_below (Kd.V_elderB (by (with_reducible repeat (first | apply Kd.V_alloc | apply Kd.V_drewN | apply Kd.V_drew)); exact HO_389000.out) gb401 (Nat.le_of_eq hg.symm)) hb); replace BK388 := zk hb BK388; replace HK := am (KeepBut.trans (zq1 HK GW388) (KeepBut.of_below hb g none) (.inl rfl)); replace HB := am (below_step ((zb2 HB.out (IsS93.ge HI0.out) GE388.out)) hb); replace HI0 := am (IsS93.below (i93_1 HI0 NB0_388) hb); clear hb hbox hg; obtain ⟨hnb59, hnc59⟩ := zn2 NB401_388; obtain ⟨hnb60, hnc60⟩ := zn2 NB401_0; obtain ⟨hcz61_0, hcz61_1, hcz61_2, hcz61_3, hfz61_0, hfz61_1, hfz61_2, hfz61_3⟩ := zc4 BK401.out; obtain ⟨hnb62, hnc62⟩ := zn2 NB388_0; obtain ⟨hcz63_0, hfz63_0⟩ := zc1 BK388.out; obtain ⟨Ao64, co64, eo64⟩ := Kd.V_slice HO_389000.out; subst eo64) | ((with_reducible refine gate_callee (f := 9) rfl ?_); refine goesL_ (some 22) rfl rfl Try.func9 (by kernel_rfl) rfl #[.agg #[.slice Ao64 x389000_1.length co64], .agg #[.int .i64 t395, .string t396, .string t397, .string t398]] rfl zr ?_; (with_reducible refine (spec_DoAct.calls k1 _ _ x389000_1 t395 t396 t397 t398 t402 false _ ?side1 ?side2 A9.out).mono ?_); (case side1 => refine (Kd.V_reads' (e := 66) (base := w.heap.size) (ok := fun k_ => (((P1_0_ k_ ∨ w.heap.size ≤ k_) ∧ (some k_ ≠ (u5 : Value).ownBlock ∧ (k_ ≠ gb388 ∧ k_ ≠ g))) ∧ k_ ≠ gb401)) (n := x389000_1.length) (c := co64) ?_).2.2; exact (by (with_reducible repeat (first | apply Kd.V_alloc | apply Kd.V_drewN | apply Kd.V_drew)); exact (Kd.V_mono (Kd.V_far (p := ⟨gb401, 3, none⟩) (Kd.V_far (p := ⟨gb401, 2, none⟩) (Kd.V_far (p := ⟨gb401, 1, none⟩) (Kd.V_far (p := ⟨gb401, 0, none⟩) (Kd.V_mono HO_389000.out (fun k_ hk => (⟨hk, hk.2⟩ : _ ∧ k_ ≠ gb401))) (fun _ hk => hk.2) (.int .i64 t395)) (fun _ hk => hk.2) (.string t396)) (fun _ hk => hk.2) (.string t397)) (fun _ hk => hk.2) (.string t398)) (fun _ h_ => h_.1)))); (case side2 => exact (Kd.V_reads' HO_389000.out).2.1); rintro e w65 ⟨v403, rfl, ho0, hb⟩; refine ⟨_, rfl, ?_⟩; have HO404 := am (Kd.R_lower (Kd.R_newM (M := fun k_ => (w.heap.size ≤ k_)) ho0 (keep_size (w := w) (g := g) (row := none) (zq2 HK GW388 GW401)) (fun k_ h_ => h_)) (keep_size (w := w) (g := g) (row := none) (zq2 HK GW388 GW401))); replace HO_5 := am (Kd.R_below (rx ((Kd.R_mono (Kd.R_far (p := ⟨gb401, 3, none⟩) (Kd.R_far (p := ⟨gb401, 2, none⟩) (Kd.R_far (p := ⟨gb401, 1, none⟩) (Kd.R_far (p := ⟨gb401, 0, none⟩) (Kd.R_mono HO_5.out (fun k_ hk => (⟨hk, hk.2⟩ : _ ∧ k_ ≠ gb401))) (fun _ hk => hk.2) (.int .i64 t395)) (fun _ hk => hk.2) (.string t396)) (fun _ hk => hk.2) (.string t397)) (fun _ hk => hk.2) (.string t398)) (fun _ h_ => h_.1)))) hb); replace HO_389000 := am (Kd.V_elder' (by (with_reducible repeat (first | apply Kd.V_alloc | apply Kd.V_drewN | apply Kd.V_drew)); exact (Kd.V_mono (Kd.V_far (p := ⟨gb401, 3, none⟩) (Kd.V_far (p := ⟨gb401, 2, none⟩) (Kd.V_far (p := ⟨gb401, 1, none⟩) (Kd.V_far (p := ⟨gb401, 0, none⟩) (Kd.V_mono HO_389000.out (fun k_ hk => (⟨hk, hk.2⟩ : _ ∧ k_ ≠ gb401))) (fun _ hk => hk.2) (.int .i64 t395)) (fun _ hk => hk.2) (.string t396)) (fun _ hk => hk.2) (.string t397)) (fun _ hk => hk.2) (.string t398)) (fun _ h_ => h_.1))) (Kd.R_base ho0) hb); replace BK388 := zh1 hb BK388 NB388_401; replace BK401 := am (blk_below (g := gb401) (o := .cells #[.int .i64 t395, .string t396, .string t397, .string t398] 35 (0, 0)) (zt3210 BK401.out) hb); replace HK := am (KeepBut.trans (zq2 HK GW388 GW401) (KeepBut.of_below hb g none) (.inl rfl)); replace HB := am (below_step ((zb3 HB.out (IsS93.ge HI0.out) GE388.out GE401.out)) hb); replace HI0 := am (IsS93.below (show IsS93 w0 ((((w58.setCell ⟨gb401, 0, none⟩ (.int .i64 t395)).setCell ⟨gb401, 1, none⟩ (.string t396)).setCell ⟨gb401, 2, none⟩ (.string t397)).setCell ⟨gb401, 3, none⟩ (.string t398)) g s0_0 t399 t400 from (i93_2 HI0 NB0_388 NB0_401)) hb); clear hb ho0) | ((with_reducible refine gate_dst (N := 8) rfl ?_); refine box_event rfl (N := 8) rfl (cs := #[.slice none 0 0]) (t := 31) zrun ?_; intro gb406 hg w66 hbox hb; have BK406 := am (hbox); have GW406 := zks hg (zq2 HK GW388 GW401); have GE406 := am ((Nat.le_trans HW0.out (by rw [hg]; exact (keep_size (w := w) (g := g) (row := none) (zq2 HK GW388 GW401)) : w.heap.size ≤ gb406) : w0.heap.size ≤ gb406)); obtain ⟨NB388_406, NB406_388⟩ := zne hg BK388; obtain ⟨NB401_406, NB406_401⟩ := zne hg BK401; have NB0_406 := i93_l hg (show IsS93 w0 _ g s0_0 t399 t400 from (i93_2 HI0 NB0_388 NB0_401)); have NB406_0 := i93_g hg (show IsS93 w0 _ g s0_0 t399 t400 from (i93_2 HI0 NB0_388 NB0_401)); replace HO_5 := zo hb HO_5; replace HO_389000 := am (Kd.V_below (Kd.V_elderB (by (with_reducible repeat (first | apply Kd.V_alloc | apply Kd.V_drewN | apply Kd.V_drew)); exact HO_389000.out) gb406 (Nat.le_of_eq hg.symm)) hb); replace HO404 := zo hb HO404; replace BK388 := zk hb BK388; replace BK401 := zk hb BK401; replace HK := am (KeepBut.trans (zq2 HK GW388 GW401) (KeepBut.of_below hb g none) (.inl rfl)); replace HB := am (below_step ((zb3 HB.out (IsS93.ge HI0.out) GE388.out GE401.out)) hb); replace HI0 := am (IsS93.below (i93_2 HI0 NB0_388 NB0_401) hb); clear hb hbox hg; obtain ⟨Ao67, co67, eo67⟩ := Kd.R_slice HO404.out; subst eo67; obtain ⟨hnb68, hnc68⟩ := zn2 NB406_388; obtain ⟨hnb69, hnc69⟩ := zn2 NB406_401; obtain ⟨hnb70, hnc70⟩ := zn2 NB406_0; obtain ⟨hcz71_0, hfz71_0⟩ := zc1 BK406.out) | (go_at_call 74; (with_reducible refine (spec_l01Once.calls g s0_0 t399 t400 20 false t411 t412 w0 _ ?side1 ?side2 A32.out).mono ?_); (case side1 => exact i93_3 HI0 NB0_388 NB0_401 NB0_406); (case side2 => exact zb4 HB.out (IsS93.ge HI0.out) GE388.out GE401.out GE406.out); rintro e w72 ⟨rfl, hi, hb, hk⟩; replace HO_5 := am (Kd.R_mono (Kd.R_keep (IsS93.apart (show IsS93 w0 _ g s0_0 t399 t400 from (i93_3 HI0 NB0_388 NB0_401 NB0_406)) (rx ((zrf 0 (.slice Ao67 t402.length co67) HO_5 BK406))) (by decide)) hk (fun _ h => h.2)) (fun _ h => h.1)); replace HO_389000 := am (Kd.V_mono (Kd.V_keep (Kd.V_mono (ok := fun k_ => ((((((P1_0_ k_ ∨ w.heap.size ≤ k_)) ∧ (some k_ ≠ (u5 : Value).ownBlock ∧ (k_ ≠ gb388 ∧ k_ ≠ g))) ∧ k_ ≠ gb401) ∧ some k_ ≠ (.slice Ao67 t402.length co67 : Value).ownBlock) ∧ k_ ≠ gb406)) (by (with_reducible repeat (first | apply Kd.V_alloc | apply Kd.V_drewN | apply Kd.V_drew)); exact (Kd.V_mono (Kd.V_far (p := ⟨gb406, 0, none⟩) (Kd.V_mono HO_389000.out (fun k_ hk => (⟨hk, hk.2⟩ : _ ∧ k_ ≠ gb406))) (fun _ hk => hk.2) (.slice Ao67 t402.length co67)) (fun _ h_ => h_.1))) (fun k_ hk_ => (⟨hk_, hk_.1.1.1.2.2.2⟩ : _ ∧ k_ ≠ g))) hk (fun _ h => h.2)) (fun _ h => h.1)); replace BK388 := am (KeepBut.blk hk (g' := gb388) (o := .cells #[.slice Ao64 x389000_1.length co64] 31 (0, 0)) (zf1 BK388.out NB388_406.out) NB388_0.out (by simp)); replace BK401 := am (KeepBut.blk hk (g' := gb401) (o := .cells #[.int .i64 t395, .string t396, .string t397, .string t398] 35 (0, 0)) (zf1 BK401.out NB401_406.out) NB401_0.out (by simp)); replace HO404 := am (Kd.R_mono (Kd.R_keep (IsS93.apart (show IsS93 w0 _ g s0_0 t399 t400 from (i93_3 HI0 NB0_388 NB0_401 NB0_406)) (rx ((zrf 0 (.slice Ao67 t402.length co67) HO404 BK406))) (by decide)) hk (fun _ h => h.2)) (fun _ h => h.1)); replace BK406 := am (KeepBut.blk hk (g' := gb406) (o := .cells #[.slice Ao67 t402.length co67] 31 (0, 0)) (zp0 BK406.out) NB406_0.out (by simp)); replace HK := zqt hk (zq3 HK GW388 GW401 GW406); replace HB := am (hb); replace HI0 := am (hi); clear hb hk hi))
      go_roundg k1
      case measure => have := HK1.out; omega
      case rel => exact ⟨(x5_1), (wrap64 (x6_1 + 1)), (t411), (t412), (x389000_1), (.slice Ao64 x389000_1.length co64), (by first | rfl | (simp; done) | (simp [*]; done)), H', ⟨by have := HK1.out; omega⟩, ⟨rx (Kd.R_mono HO_5.out (fun _ hk => hk.1))⟩, ⟨by (with_reducible repeat (first | apply Kd.V_alloc | apply Kd.V_drewN | apply Kd.V_drew)); exact Kd.V_mono HO_389000.out (fun _ hk => ⟨hk.1.1.1.1, ⟨hk.1.1.1.2.1, ⟨hk.1.1.1.2.2.1, hk.1.1.1.2.2.2⟩⟩⟩)⟩, ⟨kx BK388.out⟩, ⟨(i93_3 HI0 NB0_388 NB0_401 NB0_406)⟩, ⟨(zq3 HK GW388 GW401 GW406)⟩, ⟨(zb4 HB.out (IsS93.ge HI0.out) GE388.out GE401.out GE406.out)⟩⟩
   ·rw [if_neg c7] at H
    have c7b0 : decide (x6_1 < t392) = false := decide_eq_false c7
    have c7b1 : decide (t392 ≤ x6_1) = true := decide_eq_true (by omega)
    clear c7
    simp only [Option.some.injEq, Prod.mk.injEq] at H
    obtain ⟨rfl, rfl, rfl⟩ := H
    go_wp2_with (first | ((with_reducible refine gate_callee (f := 66) rfl ?_); refine goesL_ (some 13) rfl rfl Try.func66 (by kernel_rfl) rfl #[.pointer (some ⟨g, 0, none⟩), .int .i64 9] rfl zr ?_; (with_reducible refine (spec_l01Below.calls g s0_0 x1001_1 x1002_1 9 t392 t393 t394 w0 _ ?side1 ?side2 A6.out).mono ?_); (case side1 => exact i93_1 HI0 NB0_388); (case side2 => exact zb2 HB.out (IsS93.ge HI0.out) GE388.out); rintro e w73 ⟨rfl, hi, hb, hk⟩; refine ⟨_, rfl, ?_⟩; replace HO_5 := i93_r hk (show IsS93 w0 _ g s0_0 x1001_1 x1002_1 from (i93_1 HI0 NB0_388)) HO_5; replace HO_389000 := am (Kd.V_mono (Kd.V_keep (Kd.V_mono (ok := fun k_ => (((P1_0_ k_ ∨ w.heap.size ≤ k_)) ∧ (some k_ ≠ (u5 : Value).ownBlock ∧ (k_ ≠ gb388 ∧ k_ ≠ g)))) (by (with_reducible repeat (first | apply Kd.V_alloc | apply Kd.V_drewN | apply Kd.V_drew)); exact HO_389000.out) (fun k_ hk_ => (⟨hk_, hk_.2.2.2⟩ : _ ∧ k_ ≠ g))) hk (fun _ h => h.2)) (fun _ h => h.1)); replace BK388 := zkb hk BK388 NB388_0; replace HK := zqt hk (zq1 HK GW388); replace HB := am (hb); replace HI0 := am (hi); clear hb hk hi))
    go_ret
    exact ⟨_, by first | rfl | (simp [errW_none, errW_some] <;> rfl) | (simp [*, errW_none, errW_some] <;> rfl), rx HO_5.out, (i93_1 HI0 NB0_388), (zb2 HB.out (IsS93.ge HI0.out) GE388.out), (zq1 HK GW388)⟩

/-! ### spec_l01Place: function 52 -/
def spec_l01Place.f (s0_0 : List Int) (s0_1 : Int) (s0_2 : Int) (a1 : Int) : Option (Int × Int × Int) := (spec_l01Once.f s0_0 s0_1 s0_2 15).bind fun bt416 => (if bt416.1 = true then ((spec_l01PickInt.f s0_0 bt416.2.1 bt416.2.2 (([(-1), a1, wrap64 (a1 + 1), 9223372036854775807, (-9223372036854775808)] : List Int))).bind fun bt422 => (some (bt422.1, bt422.2.1, bt422.2.2))) else ((spec_l01Below.f s0_0 bt416.2.1 bt416.2.2 a1).bind fun bt425 => (some (bt425.1, bt425.2.1, bt425.2.2))))
set_option maxHeartbeats 8000000 in
set_option maxRecDepth 100000 in
theorem spec_l01Place.calls (g : Nat) (s0_0 : List Int) (s0_1 : Int) (s0_2 : Int) (a1 : Int) (r1 : Int) (r2 : Int) (r3 : Int) (w0 w : World) (hI : IsS93 w0 w g s0_0 s0_1 s0_2) (hB : Below w0.heap.size w0 w) (h : spec_l01Place.f s0_0 s0_1 s0_2 a1 = some (r1, r2, r3)) :
  Calls Try.prog 52 #[.pointer (some ⟨g, 0, none⟩), .int .i64 a1] w fun e w' => e = .returned (.int .i64 r1) ∧ IsS93 w0 w' g s0_0 r2 r3 ∧ Below w0.heap.size w0 w' ∧ KeepBut w w' g none := by
 have HI0 := Aside0.mk hI
 have HK := Aside0.mk (KeepBut.refl w g none)
 have HL := Aside0.mk hB.size
 clear hI
 have HW0 := Aside0.mk hB.size
 have HB := Aside0.mk hB
 clear hB
 have H : ((spec_l01Once.f s0_0 s0_1 s0_2 15).bind fun bt416 => (if bt416.1 = true then ((spec_l01PickInt.f s0_0 bt416.2.1 bt416.2.2 (([(-1), a1, wrap64 (a1 + 1), 9223372036854775807, (-9223372036854775808)] : List Int))).bind fun bt422 => (some (bt422.1, bt422.2.1, bt422.2.2))) else ((spec_l01Below.f s0_0 bt416.2.1 bt416.2.2 a1).bind fun bt425 => (some (bt425.1, bt425.2.1, bt425.2.2))))) = some (r1, r2, r3) := h
 clear h
 replace H := Option.bind_eq_some_iff.mp H
 obtain ⟨⟨t416, t417, t418⟩, A30, H⟩ := H
 try dsimp only at H
 have A3 := Aside0.mk A30
 clear A30
 by_cases c4 : t416 = true
 ·subst c4
  have H1 : ((spec_l01PickInt.f s0_0 t417 t418 (([(-1), a1, wrap64 (a1 + 1), 9223372036854775807, (-9223372036854775808)] : List Int))).bind fun bt422 => (some (bt422.1, bt422.2.1, bt422.2.2))) = some (r1, r2, r3) := by rw [if_pos rfl] at H; exact H
  clear H
  have H := H1
  clear H1
  obtain ⟨y419, hy419⟩ : ∃ y_ : List Int, y_ = (([(-1), a1, wrap64 (a1 + 1), 9223372036854775807, (-9223372036854775808)] : List Int)) := ⟨_, rfl⟩
  replace H : ((spec_l01PickInt.f s0_0 t417 t418 y419).bind fun bt422 => (some (bt422.1, bt422.2.1, bt422.2.2))) = some (r1, r2, r3) := by first | (rw [hy419]; with_reducible exact H) | (have H2_ := (Option.bind_some _ _).symm.trans H; rw [hy419]; with_reducible exact H2_) | (have H2_ := (Option.bind_some _ _).symm.trans H; with_reducible exact H2_) | with_reducible exact H | (rw [hy419]; exact H) | exact H
  have Ny419 := Aside0.mk hy419
  clear hy419
  replace H := Option.bind_eq_some_iff.mp H
  obtain ⟨⟨t422, t423, t424⟩, A50, H⟩ := H
  try dsimp only at H
  have A5 := Aside0.mk A50
  clear A50
  simp only [Option.some.injEq, Prod.mk.injEq] at H
  obtain ⟨rfl, rfl, rfl⟩ := H
  go_enter Try.func52, Try.ntmps52
  go_wp2_with (first | ((with_reducible refine gate_callee (f := 74) rfl ?_); refine goesL_ (some 6) rfl rfl Try.func74 (by kernel_rfl) rfl #[.pointer (some ⟨g, 0, none⟩), .int .i64 15] rfl zr ?_; (with_reducible refine (spec_l01Once.calls g s0_0 s0_1 s0_2 15 true t417 t418 w0 _ ?side1 ?side2 A3.out).mono ?_); (case side1 => exact i93_0 HI0); (case side2 => exact zb1 HB.out (IsS93.ge HI0.out)); rintro e w6 ⟨rfl, hi, hb, hk⟩; refine ⟨_, rfl, ?_⟩; replace HK := zqt hk (zq0 HK); replace HB := am (hb); replace HI0 := am (hi); clear hb hk hi) | ((with_reducible refine gate_dst (N := 11) rfl ?_); refine Kd.R_lit (Kd.int .i64) _ 3 ?hg (N := 11) ?hd (xs := ([(-1), a1, wrap64 (a1 + 1), 9223372036854775807, (-9223372036854775808)] : List Int)) (inner := [.int .i64 (-1), .int .i64 a1, .int .i64 (wrap64 (a1 + 1)), .int .i64 9223372036854775807, .int .i64 (-9223372036854775808)]) (ok := fun _ => True) (okp := fun _ => True) ?hr ?hp (fun _ hk => hk) trivial (Below.refl _ _) (Nat.le_refl _) (by simp) ?_; (case hd => rfl); (case hg => rfl); (case hr => first | (go_simp; done) | (go_simp; rfl)); (case hp => exact (Reps.one (show Kd.M (Kd.int .i64) _ _ _ (-1) [.int .i64 (-1)] from rfl) (Reps.one (show Kd.M (Kd.int .i64) _ _ _ a1 [.int .i64 a1] from rfl) (Reps.one (show Kd.M (Kd.int .i64) _ _ _ (wrap64 (a1 + 1)) [.int .i64 (wrap64 (a1 + 1))] from rfl) (Reps.one (show Kd.M (Kd.int .i64) _ _ _ 9223372036854775807 [.int .i64 9223372036854775807] from rfl) (Reps.one (show Kd.M (Kd.int .i64) _ _ _ (-9223372036854775808) [.int .i64 (-9223372036854775808)] from rfl) (Reps.none _ _))))))); intro v420 w7 ho8 hb hg_ hnew_; clear hg_ hnew_; (first | rw [← Ny419.out] at ho8 | (simp only [Int.reduceToNat] at ho8; rw [← Ny419.out] at ho8)); have HO421 := am (Kd.R_lower ho8 (keep_size (w := w) (g := g) (row := none) (zq0 HK))); replace HK := am (KeepBut.trans (zq0 HK) (KeepBut.of_below hb g none) (.inl rfl)); replace HB := am (below_step ((zb1 HB.out (IsS93.ge HI0.out))) hb); replace HI0 := am (IsS93.below (i93_0 HI0) hb); clear hb ho8; obtain ⟨Ao9, co9, eo9⟩ := Kd.R_slice HO421.out; subst eo9) | ((with_reducible refine gate_callee (f := 69) rfl ?_); refine goesL_ (some 12) rfl rfl Try.func69 (by kernel_rfl) rfl #[.pointer (some ⟨g, 0, none⟩), .slice Ao9 y419.length co9] rfl zr ?_; (with_reducible refine (spec_l01PickInt.calls g s0_0 t417 t418 _ _ y419 t422 t423 t424 w0 _ ?side1 ?side2 ?side3 ?side4 ?side5 A5.out).mono ?_); (case side1 => exact i93_0 HI0); (case side2 => exact zb1 HB.out (IsS93.ge HI0.out)); (case side3 => repeat (first | exact (Kd.R_reads' HO421.out).2.2 | (with_reducible refine Kd.C_alloc ?_ _) | (with_reducible refine Kd.C_drewN ?_ _) | (with_reducible refine Kd.C_drew ?_))); (case side4 => exact (Kd.R_reads' HO421.out).2.1); (case side5 => exact far_slice (IsS93.own_ne HI0.out HO421.out (by decide))); rintro e w10 ⟨rfl, hi, hb, hk⟩; refine ⟨_, rfl, ?_⟩; replace HO421 := i93_r hk (show IsS93 w0 _ g s0_0 t417 t418 from (i93_0 HI0)) HO421; replace HK := zqt hk (zq0 HK); replace HB := am (hb); replace HI0 := am (hi); clear hb hk hi))
  go_ret
  exact ⟨by first | rfl | (simp [errW_none, errW_some] <;> rfl) | (simp [*, errW_none, errW_some] <;> rfl), (i93_0 HI0), (zb1 HB.out (IsS93.ge HI0.out)), (zq0 HK)⟩
 ·replace c4 := Bool.eq_false_iff.mpr c4
  subst c4
  have H1 : ((spec_l01Below.f s0_0 t417 t418 a1).bind fun bt425 => (some (bt425.1, bt425.2.1, bt425.2.2))) = some (r1, r2, r3) := by rw [if_neg (show ¬ (false = true) by decide)] at H; exact H
  clear H
  have H := H1
  clear H1
  replace H := Option.bind_eq_some_iff.mp H
  obtain ⟨⟨t425, t426, t427⟩, A110, H⟩ := H
  try dsimp only at H
  have A11 := Aside0.mk A110
  clear A110
  simp only [Option.some.injEq, Prod.mk.injEq] at H
  obtain ⟨rfl, rfl, rfl⟩ := H
  go_enter Try.func52, Try.ntmps52
  go_wp2_with (first | ((with_reducible refine gate_callee (f := 74) rfl ?_); refine goesL_ (some 6) rfl rfl Try.func74 (by kernel_rfl) rfl #[.pointer (some ⟨g, 0, none⟩), .int .i64 15] rfl zr ?_; (with_reducible refine (spec_l01Once.calls g s0_0 s0_1 s0_2 15 false t417 t418 w0 _ ?side1 ?side2 A3.out).mono ?_); (case side1 => exact i93_0 HI0); (case side2 => exact zb1 HB.out (IsS93.ge HI0.out)); rintro e w12 ⟨rfl, hi, hb, hk⟩; refine ⟨_, rfl, ?_⟩; replace HK := zqt hk (zq0 HK); replace HB := am (hb); replace HI0 := am (hi); clear hb hk hi) | ((with_reducible refine gate_callee (f := 66) rfl ?_); refine goesL_ (some 15) rfl rfl Try.func66 (by kernel_rfl) rfl #[.pointer (some ⟨g, 0, none⟩), .int .i64 a1] rfl zr ?_; (with_reducible refine (spec_l01Below.calls g s0_0 t417 t418 a1 t425 t426 t427 w0 _ ?side1 ?side2 A11.out).mono ?_); (case side1 => exact i93_0 HI0); (case side2 => exact zb1 HB.out (IsS93.ge HI0.out)); rintro e w13 ⟨rfl, hi, hb, hk⟩; refine ⟨_, rfl, ?_⟩; replace HK := zqt hk (zq0 HK); replace HB := am (hb); replace HI0 := am (hi); clear hb hk hi))
  go_ret
  exact ⟨by first | rfl | (simp [errW_none, errW_some] <;> rfl) | (simp [*, errW_none, errW_some] <;> rfl), (i93_0 HI0), (zb1 HB.out (IsS93.ge HI0.out)), (zq0 HK)⟩

/-! ### spec_l03Left: function 53 -/
def spec_l03Left.l0 : Nat → List Int → Int → List Int → Int → Int → Option (List Int × Int × Int)
 | 0, _, _, _, _, _ => none
 | k + 1, x3, x4, x1000, x1001, x1002 => (spec_l01Below.f x1000 x1001 x1002 6).bind fun bt431 => (if x4 < bt431.1 then ((spec_l01PickInt.f x1000 bt431.2.1 bt431.2.2 (([0, 1, 2, 3, 5, 9, 40, 200, (-1), 9223372036854775807] : List Int))).bind fun bt437 => (if x3.length < 17592186044416 then (spec_l03Left.l0 k (x3 ++ [bt437.1]) (wrap64 (x4 + 1)) x1000 bt437.2.1 bt437.2.2) else (none))) else (some (x3, bt431.2.1, bt431.2.2)))
def spec_l03Left.f (k : Nat) (s0_0 : List Int) (s0_1 : Int) (s0_2 : Int) : Option (List Int × Int × Int) := spec_l03Left.l0 k (([] : List Int)) 0 s0_0 s0_1 s0_2
theorem spec_l03Left.mono_l : ∀ k, (∀ y0 y1 y2 y3 y4, LeO (spec_l03Left.l0 k y0 y1 y2 y3 y4) (spec_l03Left.l0 (k + 1) y0 y1 y2 y3 y4))
 | 0 => fun _ _ _ _ _ r h => by simp [spec_l03Left.l0] at h
 | k + 1 => by
  have ih0 := spec_l03Left.mono_l k
  ·intro y0 y1 y2 y3 y4
   unfold spec_l03Left.l0
   repeat' first
   | (with_reducible exact ih0 _ _ _ _ _)
   | (with_reducible exact LeO.refl _)
   | (with_reducible exact LeO.none _)
   | (with_reducible refine LeO.ite ?_ ?_)
   | (with_reducible refine LeO.bind ?_ (fun _ => ?_))
   | exact ih0 _ _ _ _ _
   | exact LeO.none _
   | refine LeO.ite ?_ ?_
   | refine LeO.bind ?_ (fun _ => ?_)
theorem spec_l03Left.mono : ∀ a0 a1 a2 k, LeO (spec_l03Left.f k a0 a1 a2) (spec_l03Left.f (k + 1) a0 a1 a2) := by
 intro a0 a1 a2 k
 have ih0 := spec_l03Left.mono_l k
 unfold spec_l03Left.f
 repeat' first
   | (with_reducible exact ih0 _ _ _ _ _)
   | (with_reducible exact LeO.refl _)
   | (with_reducible exact LeO.none _)
   | (with_reducible refine LeO.ite ?_ ?_)
   | (with_reducible refine LeO.bind ?_ (fun _ => ?_))
   | exact ih0 _ _ _ _ _
   | exact LeO.none _
   | refine LeO.ite ?_ ?_
   | refine LeO.bind ?_ (fun _ => ?_)
set_option maxHeartbeats 8000000 in
set_option maxRecDepth 100000 in
theorem spec_l03Left.calls (k : Nat) (g : Nat) (s0_0 : List Int) (s0_1 : Int) (s0_2 : Int) (r1 : List Int) (r2 : Int) (r3 : Int) (w0 w : World) (hI : IsS93 w0 w g s0_0 s0_1 s0_2) (hB : Below w0.heap.size w0 w) (h : spec_l03Left.f k s0_0 s0_1 s0_2 = some (r1, r2, r3)) :
  Calls Try.prog 53 #[.pointer (some ⟨g, 0, none⟩)] w fun e w' => ∃ v0_ : Value, e = .returned (v0_) ∧ Kd.R (Kd.int .i64) 3 w' w.heap.size (fun _ => True) v0_ r1 ∧ IsS93 w0 w' g s0_0 r2 r3 ∧ Below w0.heap.size w0 w' ∧ KeepBut w w' g none := by
 have HI0 := Aside0.mk hI
 have HK := Aside0.mk (KeepBut.refl w g none)
 have HL := Aside0.mk hB.size
 clear hI
 have HW0 := Aside0.mk hB.size
 have HB := Aside0.mk hB
 clear hB
 have H : (spec_l03Left.l0 k (([] : List Int)) 0 s0_0 s0_1 s0_2) = some (r1, r2, r3) := h
 clear h
 obtain ⟨y428, hy428⟩ : ∃ y_ : List Int, y_ = (([] : List Int)) := ⟨_, rfl⟩
 replace H : (spec_l03Left.l0 k y428 0 s0_0 s0_1 s0_2) = some (r1, r2, r3) := by first | (rw [hy428]; with_reducible exact H) | (have H2_ := (Option.bind_some _ _).symm.trans H; rw [hy428]; with_reducible exact H2_) | (have H2_ := (Option.bind_some _ _).symm.trans H; with_reducible exact H2_) | with_reducible exact H | (rw [hy428]; exact H) | exact H
 have Ny428 := Aside0.mk hy428
 clear hy428
 have H' := Aside0.mk H
 clear H
 go_enter Try.func53, Try.ntmps53
 go_wp2_with (first | ((with_reducible refine gate_dst (N := 5) rfl ?_); refine Kd.R_lit (Kd.int .i64) _ 3 ?hg (N := 5) ?hd (xs := ([] : List Int)) (inner := []) (ok := fun _ => True) (okp := fun _ => True) ?hr ?hp (fun _ hk => hk) trivial (Below.refl _ _) (Nat.le_refl _) (by simp) ?_; (case hd => rfl); (case hg => rfl); (case hr => first | (go_simp; done) | (go_simp; rfl)); (case hp => exact (Reps.none _ _)); intro v429 w2 ho3 hb hg_ hnew_; clear hg_ hnew_; (first | rw [← Ny428.out] at ho3 | (simp only [Int.reduceToNat] at ho3; rw [← Ny428.out] at ho3)); have HO430 := am (Kd.R_lower ho3 (keep_size (w := w) (g := g) (row := none) (zq0 HK))); replace HK := am (KeepBut.trans (zq0 HK) (KeepBut.of_below hb g none) (.inl rfl)); replace HB := am (below_step ((zb1 HB.out (IsS93.ge HI0.out))) hb); replace HI0 := am (IsS93.below (i93_0 HI0) hb); clear hb ho3))
 go_loopg [3, 4] k (fun kq v3 v4 w' => ∃ (x3_1 : List Int) (x4_1 : Int) (x1001_1 : Int) (x1002_1 : Int), v4 = .int .i64 x4_1 ∧ Aside0 (spec_l03Left.l0 kq x3_1 x4_1 s0_0 x1001_1 x1002_1 = some (r1, r2, r3)) ∧ Aside0 (kq ≤ k) ∧ Aside0 (Kd.R (Kd.int .i64) 3 w' w.heap.size (fun _ => True) v3 x3_1) ∧ Aside0 (IsS93 w0 w' g s0_0 x1001_1 x1002_1) ∧ Aside0 (KeepBut w w' g none) ∧ Aside0 (Below w0.heap.size w0 w'))
 case atStart => exact ⟨(y428), (0), (s0_1), (s0_2), (by first | rfl | (simp; done) | (simp [*]; done)), H', ⟨Nat.le_refl _⟩, ⟨rx HO430.out⟩, ⟨(i93_0 HI0)⟩, ⟨(zq0 HK)⟩, ⟨(zb1 HB.out (IsS93.ge HI0.out))⟩⟩
 case round =>
  clear H'
  obtain ⟨x3_1, x4_1, x1001_1, x1002_1, rfl, HA, HK1, HO_3, HI0, HK, HB⟩ := hrel
  cases gk with
  | zero => exact absurd HA.out (by simp [spec_l03Left.l0])
  | succ k1 =>
   have H := HA.out
   clear HA
   simp only [spec_l03Left.l0] at H
   replace H := Option.bind_eq_some_iff.mp H
   obtain ⟨⟨t431, t432, t433⟩, A40, H⟩ := H
   try dsimp only at H
   have A4 := Aside0.mk A40
   clear A40
   by_cases c5 : x4_1 < t431
   ·rw [if_pos c5] at H
    have c5b0 : decide (x4_1 < t431) = true := decide_eq_true c5
    have c5b1 : decide (t431 ≤ x4_1) = false := decide_eq_false (by omega)
    clear c5
    obtain ⟨y434, hy434⟩ : ∃ y_ : List Int, y_ = (([0, 1, 2, 3, 5, 9, 40, 200, (-1), 9223372036854775807] : List Int)) := ⟨_, rfl⟩
    replace H : ((spec_l01PickInt.f s0_0 t432 t433 y434).bind fun bt437 => (if x3_1.length < 17592186044416 then (spec_l03Left.l0 k1 (x3_1 ++ [bt437.1]) (wrap64 (x4_1 + 1)) s0_0 bt437.2.1 bt437.2.2) else (none))) = some (r1, r2, r3) := by first | (rw [hy434]; with_reducible exact H) | (have H2_ := (Option.bind_some _ _).symm.trans H; rw [hy434]; with_reducible exact H2_) | (have H2_ := (Option.bind_some _ _).symm.trans H; with_reducible exact H2_) | with_reducible exact H | (rw [hy434]; exact H) | exact H
    have Ny434 := Aside0.mk hy434
    clear hy434
    replace H := Option.bind_eq_some_iff.mp H
    obtain ⟨⟨t437, t438, t439⟩, A60, H⟩ := H
    try dsimp only at H
    have A6 := Aside0.mk A60
    clear A60
    by_cases c7 : x3_1.length < 17592186044416
    ·rw [if_pos c7] at H
     have LMc7 := Aside0.mk c7
     clear c7
     obtain ⟨y440, hy440⟩ : ∃ y_ : List Int, y_ = (x3_1 ++ [t437]) := ⟨_, rfl⟩
     replace H : (spec_l03Left.l0 k1 y440 (wrap64 (x4_1 + 1)) s0_0 t438 t439) = some (r1, r2, r3) := by first | (rw [hy440]; with_reducible exact H) | (have H2_ := (Option.bind_some _ _).symm.trans H; rw [hy440]; with_reducible exact H2_) | (have H2_ := (Option.bind_some _ _).symm.trans H; with_reducible exact H2_) | with_reducible exact H | (rw [hy440]; exact H) | exact H
     have Ny440 := Aside0.mk hy440
     clear hy440
     have H' := Aside0.mk H
     clear H
     go_wp2_with (first | ((with_reducible refine gate_callee (f := 66) rfl ?_); refine goesL_ (some 8) rfl rfl Try.func66 (by kernel_rfl) rfl #[.pointer (some ⟨g, 0, none⟩), .int .i64 6] rfl zr ?_; (with_reducible refine (spec_l01Below.calls g s0_0 x1001_1 x1002_1 6 t431 t432 t433 w0 _ ?side1 ?side2 A4.out).mono ?_); (case side1 => exact i93_0 HI0); (case side2 => exact zb1 HB.out (IsS93.ge HI0.out)); rintro e w8 ⟨rfl, hi, hb, hk⟩; refine ⟨_, rfl, ?_⟩; replace HO_3 := i93_r hk (show IsS93 w0 _ g s0_0 x1001_1 x1002_1 from (i93_0 HI0)) HO_3; replace HK := zqt hk (zq0 HK); replace HB := am (hb); replace HI0 := am (hi); clear hb hk hi) | ((with_reducible refine gate_dst (N := 14) rfl ?_); refine Kd.R_lit (Kd.int .i64) _ 3 ?hg (N := 14) ?hd (xs := ([0, 1, 2, 3, 5, 9, 40, 200, (-1), 9223372036854775807] : List Int)) (inner := [.int .i64 0, .int .i64 1, .int .i64 2, .int .i64 3, .int .i64 5, .int .i64 9, .int .i64 40, .int .i64 200, .int .i64 (-1), .int .i64 9223372036854775807]) (ok := fun _ => True) (okp := fun _ => True) ?hr ?hp (fun _ hk => hk) trivial (Below.refl _ _) (Nat.le_refl _) (by simp) ?_; (case hd => rfl); (case hg => rfl); (case hr => first | (go_simp; done) | (go_simp; rfl)); (case hp => exact (Reps.one (show Kd.M (Kd.int .i64) _ _ _ 0 [.int .i64 0] from rfl) (Reps.one (show Kd.M (Kd.int .i64) _ _ _ 1 [.int .i64 1] from rfl) (Reps.one (show Kd.M (Kd.int .i64) _ _ _ 2 [.int .i64 2] from rfl) (Reps.one (show Kd.M (Kd.int .i64) _ _ _ 3 [.int .i64 3] from rfl) (Reps.one (show Kd.M (Kd.int .i64) _ _ _ 5 [.int .i64 5] from rfl) (Reps.one (show Kd.M (Kd.int .i64) _ _ _ 9 [.int .i64 9] from rfl) (Reps.one (show Kd.M (Kd.int .i64) _ _ _ 40 [.int .i64 40] from rfl) (Reps.one (show Kd.M (Kd.int .i64) _ _ _ 200 [.int .i64 200] from rfl) (Reps.one (show Kd.M (Kd.int .i64) _ _ _ (-1) [.int .i64 (-1)] from rfl) (Reps.one (show Kd.M (Kd.int .i64) _ _ _ 9223372036854775807 [.int .i64 9223372036854775807] from rfl) (Reps.none _ _)))))))))))); intro v435 w9 ho10 hb hg_ hnew_; clear hg_ hnew_; (first | rw [← Ny434.out] at ho10 | (simp only [Int.reduceToNat] at ho10; rw [← Ny434.out] at ho10)); have HO436 := am (Kd.R_lower (Kd.R_new' ho10 (Kd.R_lt (rx HO_3.out))) (keep_size (w := w) (g := g) (row := none) (zq0 HK))); replace HO_3 := am (Kd.R_elder' (rx HO_3.out) (Kd.R_base ho10) hb); replace HK := am (KeepBut.trans (zq0 HK) (KeepBut.of_below hb g none) (.inl rfl)); replace HB := am (below_step ((zb1 HB.out (IsS93.ge HI0.out))) hb); replace HI0 := am (IsS93.below (i93_0 HI0) hb); clear hb ho10; obtain ⟨Ao11, co11, eo11⟩ := Kd.R_slice HO436.out; subst eo11) | ((with_reducible refine gate_callee (f := 69) rfl ?_); refine goesL_ (some 15) rfl rfl Try.func69 (by kernel_rfl) rfl #[.pointer (some ⟨g, 0, none⟩), .slice Ao11 y434.length co11] rfl zr ?_; (with_reducible refine (spec_l01PickInt.calls g s0_0 t432 t433 _ _ y434 t437 t438 t439 w0 _ ?side1 ?side2 ?side3 ?side4 ?side5 A6.out).mono ?_); (case side1 => exact i93_0 HI0); (case side2 => exact zb1 HB.out (IsS93.ge HI0.out)); (case side3 => repeat (first | exact (Kd.R_reads' HO436.out).2.2 | (with_reducible refine Kd.C_alloc ?_ _) | (with_reducible refine Kd.C_drewN ?_ _) | (with_reducible refine Kd.C_drew ?_))); (case side4 => exact (Kd.R_reads' HO436.out).2.1); (case side5 => exact far_slice (IsS93.own_ne HI0.out HO436.out (by decide))); rintro e w12 ⟨rfl, hi, hb, hk⟩; refine ⟨_, rfl, ?_⟩; replace HO_3 := i93_r hk (show IsS93 w0 _ g s0_0 t432 t433 from (i93_0 HI0)) HO_3; replace HO436 := i93_r hk (show IsS93 w0 _ g s0_0 t432 t433 from (i93_0 HI0)) HO436; replace HK := zqt hk (zq0 HK); replace HB := am (hb); replace HI0 := am (hi); clear hb hk hi) | ((with_reducible refine gate_builtin (b := .append) (xs := #[.tmp 12, .tmp 16]) rfl ?_); at_builtin; refine Kd.R_append (Kd.int .i64) w.heap.size rfl (.tmp 12) (.tmp 16) 51 3 (.int .i64 0) 8 rfl Try.underlying51 info3 rfl (by decide) (by omega) u3 x3_1 t437 [.int .i64 t437] (fun k_ => some k_ ≠ (.slice Ao11 y434.length co11 : Value).ownBlock) (fun _ => False) rfl rfl ?aP (fun _ hk => hk.elim) ?aF ?aO (Below.refl _ _) ?aS ?aL ?_; (case aP => exact rfl); (case aF => exact (fun k_ hk => Kd.fresh' (Kd.R_lt (rx HO436.out)) k_ hk)); (case aO => exact (rx (Kd.R_mono HO_3.out (fun _ hk => hk.2)))); (case aS => exact (keep_size (w := w) (g := g) (row := none) (zq0 HK))); (case aL => have := LMc7.out; omega); intro v441 w13 ho hb hg hat; rw [← Ny440.out] at ho; have HO442 := am (ho); replace HO436 := am (Kd.R_after (ok := (fun _ => True)) (rx HO436.out) hg hat); replace HB := am (below_weaken ((zb1 HB.out (IsS93.ge HI0.out))) HL.out hb); replace HI0 := am (IsS93.grown (i93_0 HI0) hg (IsS93.own_ne HI0.out HO_3.out (by decide))); replace HK := am (KeepBut.trans (zq0 HK) (KeepBut.of_grown hg g) (Kd.R_base2 HO_3.out)); clear HO_3; clear ho hb hg hat))
     go_roundg k1
     case measure => have := HK1.out; omega
     case rel => exact ⟨(y440), (wrap64 (x4_1 + 1)), (t438), (t439), (by first | rfl | (simp; done) | (simp [*]; done)), H', ⟨by have := HK1.out; omega⟩, ⟨rx (Kd.R_mono HO442.out (fun _ hk => trivial))⟩, ⟨(i93_0 HI0)⟩, ⟨(zq0 HK)⟩, ⟨(zb1 HB.out (IsS93.ge HI0.out))⟩⟩
    ·rw [if_neg c7] at H
     exact absurd H (by simp)
   ·rw [if_neg c5] at H
    have c5b0 : decide (x4_1 < t431) = false := decide_eq_false c5
    have c5b1 : decide (t431 ≤ x4_1) = true := decide_eq_true (by omega)
    clear c5
    simp only [Option.some.injEq, Prod.mk.injEq] at H
    obtain ⟨rfl, rfl, rfl⟩ := H
    go_wp2_with (first | ((with_reducible refine gate_callee (f := 66) rfl ?_); refine goesL_ (some 8) rfl rfl Try.func66 (by kernel_rfl) rfl #[.pointer (some ⟨g, 0, none⟩), .int .i64 6] rfl zr ?_; (with_reducible refine (spec_l01Below.calls g s0_0 x1001_1 x1002_1 6 t431 t432 t433 w0 _ ?side1 ?side2 A4.out).mono ?_); (case side1 => exact i93_0 HI0); (case side2 => exact zb1 HB.out (IsS93.ge HI0.out)); rintro e w14 ⟨rfl, hi, hb, hk⟩; refine ⟨_, rfl, ?_⟩; replace HO_3 := i93_r hk (show IsS93 w0 _ g s0_0 x1001_1 x1002_1 from (i93_0 HI0)) HO_3; replace HK := zqt hk (zq0 HK); replace HB := am (hb); replace HI0 := am (hi); clear hb hk hi))
    go_ret
    exact ⟨_, by first | rfl | (simp [errW_none, errW_some] <;> rfl) | (simp [*, errW_none, errW_some] <;> rfl), rx HO_3.out, (i93_0 HI0), (zb1 HB.out (IsS93.ge HI0.out)), (zq0 HK)⟩

/-! ### spec_DrawCutActs: function 23 -/
def spec_DrawCutActs.f (k : Nat) (l0 : List Int) : Option ((List (S66)) × (List (S35)) × Int × List Int) := (spec_l01New.f k l0).bind fun bt444 => ((spec_l03Disk.f k bt444.1 bt444.2.1 bt444.2.2).bind fun bt448 => ((spec_l03Acts.f k bt444.1 bt448.2.1 bt448.2.2 bt448.1).bind fun bt454 => ((spec_l01Place.f bt444.1 bt454.2.1 bt454.2.2 (wrap64 ((bt454.1.length : Int) + 1))).bind fun bt459 => ((spec_l03Left.f k bt444.1 bt459.2.1 bt459.2.2).bind fun bt462 => (some (bt448.1, bt454.1, bt459.1, bt462.1))))))
theorem spec_DrawCutActs.mono : ∀ a0 k, LeO (spec_DrawCutActs.f k a0) (spec_DrawCutActs.f (k + 1) a0) := by
 intro a0 k
 unfold spec_DrawCutActs.f
 repeat' first
   | (with_reducible exact spec_l01New.mono _ _)
   | (with_reducible exact spec_l03Acts.mono _ _ _ _ _)
   | (with_reducible exact spec_l03Disk.mono _ _ _ _)
   | (with_reducible exact spec_l03Left.mono _ _ _ _)
   | (with_reducible exact LeO.refl _)
   | (with_reducible exact LeO.none _)
   | (with_reducible refine LeO.ite ?_ ?_)
   | (with_reducible refine LeO.bind ?_ (fun _ => ?_))
   | exact spec_l01New.mono _ _
   | exact spec_l03Acts.mono _ _ _ _ _
   | exact spec_l03Disk.mono _ _ _ _
   | exact spec_l03Left.mono _ _ _ _
   | exact LeO.none _
   | refine LeO.ite ?_ ?_
   | refine LeO.bind ?_ (fun _ => ?_)
def spec_DrawCutActs.T4 : Bool × List (List Nat × List Nat) := (true, [([], []), ([], []), ([], []), ([], []), ([3], [3]), ([4], [4]), ([2, 5], [2, 5]), ([], []), ([7, 6], [7]), ([0, 8, 0], [0]), ([1, 9, 0, 1, 9], [1]), ([6, 10, 0, 1, 2, 3, 4, 5, 6, 9, 10], [6]), ([8, 11, 0, 1, 2, 3, 4, 5, 6, 7, 8, 9, 10, 11], [8])])
def spec_DrawCutActs.B4 : List Nat := [0, 0, 0, 0, 8, 24, 60, 0, 252, 509, 1023, 2047, 4095]
theorem spec_DrawCutActs.tab4 : rtab .any (opsOf Try.f23 4) = spec_DrawCutActs.T4 := by kernel_rfl
theorem spec_DrawCutActs.bits4 : waitsOk spec_DrawCutActs.T4.2 spec_DrawCutActs.B4 = true := by kernel_rfl
set_option maxHeartbeats 8000000 in
set_option maxRecDepth 100000 in
theorem spec_DrawCutActs.calls (k : Nat) (A0 : Option Addr) (c0 : Nat) (l0 : List Int) (r1 : List (S66)) (r2 : List (S35)) (r3 : Int) (r4 : List Int) (w : World) (hr0 : Kd.C (Kd.int .u8) w A0 l0.length l0) (hc0 : l0.length ≤ c0) (h : spec_DrawCutActs.f k l0 = some (r1, r2, r3, r4)) :
  Calls Try.prog 23 #[.slice A0 l0.length c0] w fun e w' => ∃ v0_ v1_ v3_ : Value, e = .returned (.tuple #[.agg #[v0_], v1_, .int .i64 r3, v3_]) ∧ Kd.R k66 66 w' w.heap.size (fun _ => True) v0_ r1 ∧ Kd.R k35 35 w' w.heap.size (fun _ => True) v1_ r2 ∧ Kd.R (Kd.int .i64) 3 w' w.heap.size (fun _ => True) v3_ r4 ∧ Below w.heap.size w w' := by
 have hu31 := Try.underlying31
 have HR0 := Aside0.mk hr0
 have HC0 := Aside0.mk hc0
 clear hr0 hc0
 have HB := Aside0.mk (Below.refl w.heap.size w)
 have H : ((spec_l01New.f k l0).bind fun bt444 => ((spec_l03Disk.f k bt444.1 bt444.2.1 bt444.2.2).bind fun bt448 => ((spec_l03Acts.f k bt444.1 bt448.2.1 bt448.2.2 bt448.1).bind fun bt454 => ((spec_l01Place.f bt444.1 bt454.2.1 bt454.2.2 (wrap64 ((bt454.1.length : Int) + 1))).bind fun bt459 => ((spec_l03Left.f k bt444.1 bt459.2.1 bt459.2.2).bind fun bt462 => (some (bt448.1, bt454.1, bt459.1, bt462.1))))))) = some (r1, r2, r3, r4) := h
 clear h
 replace H := Option.bind_eq_some_iff.mp H
 obtain ⟨⟨t444, t445, t446⟩, A20, H⟩ := H
 try dsimp only at H
 have A2 := Aside0.mk A20
 clear A20
 replace H := Option.bind_eq_some_iff.mp H
 obtain ⟨⟨t448, t451, t452⟩, A30, H⟩ := H
 try dsimp only at H
 have A3 := Aside0.mk A30
 clear A30
 replace H := Option.bind_eq_some_iff.mp H
 obtain ⟨⟨t454, t457, t458⟩, A40, H⟩ := H
 try dsimp only at H
 have A4 := Aside0.mk A40
 clear A40
 replace H := Option.bind_eq_some_iff.mp H
 obtain ⟨⟨t459, t460, t461⟩, A50, H⟩ := H
 try dsimp only at H
 have A5 := Aside0.mk A50
 clear A50
 replace H := Option.bind_eq_some_iff.mp H
 obtain ⟨⟨t462, t465, t466⟩, A60, H⟩ := H
 try dsimp only at H
 have A6 := Aside0.mk A60
 clear A60
 simp only [Option.some.injEq, Prod.mk.injEq] at H
 obtain ⟨rfl, rfl, rfl, rfl⟩ := H
 go_enter Try.func23, Try.ntmps23
 try go_wp2_with (first | ((with_reducible refine gate_dst (N := 2) rfl ?_); refine box_event rfl (N := 2) rfl (cs := #[.slice none 0 0]) (t := 31) zrun ?_; intro gb443 hg w7 hbox hb; have BK443 := am (hbox); have GE443 := zge hg (zb0 HB.out); replace HB := zs0 hb HB; clear hb hbox hg) | ((with_reducible refine gate_callee (f := 49) rfl ?_); refine goesL_ (some 10) rfl rfl Try.func49 (by kernel_rfl) rfl #[.slice A0 l0.length c0] rfl zr ?_; (with_reducible refine (spec_l01New.calls k _ _ l0 t444 t445 t446 w _ ?side1 ?side2 ?side3 A2.out).mono ?_); (case side1 => exact zb1 HB.out GE443.out); (case side2 => exact HR0.out); (case side3 => exact HC0.out); rintro e w8 ⟨g447, rfl, hi, hb, hb2⟩; refine ⟨_, rfl, ?_⟩; have HI447 := am (hi); have NB447_443 := am (IsS93.ne_blk hi (bb hb2 (kx BK443.out)) (by decide)); have NB443_447 := am (Ne.symm (IsS93.ne_blk hi (bb hb2 (kx BK443.out)) (by decide))); replace BK443 := zk hb2 BK443; replace HB := am (hb); clear hb hb2 hi) | ((with_reducible refine gate_callee (f := 50) rfl ?_); refine goesL_ (some 12) rfl rfl Try.func50 (by kernel_rfl) rfl #[.pointer (some ⟨g447, 0, none⟩)] rfl zr ?_; (with_reducible refine (spec_l03Disk.calls k g447 t444 t445 t446 t448 t451 t452 w _ ?side1 ?side2 A3.out).mono ?_); (case side1 => exact i93_1 HI447 NB447_443); (case side2 => exact zb2 HB.out (IsS93.ge HI447.out) GE443.out); rintro e w9 ⟨v449, rfl, ho0, hi, hb, hk⟩; refine ⟨_, rfl, ?_⟩; have HO450 := am (Kd.R_lower ho0 (below_size ((zb2 HB.out (IsS93.ge HI447.out) GE443.out)))); replace BK443 := zkb hk BK443 NB443_447; replace HB := am (hb); replace HI447 := am (hi); clear hb hk hi ho0) | ((with_reducible refine gate_dst (N := 7) rfl ?_); refine box_event rfl (N := 7) rfl (cs := #[.slice none 0 0]) (t := 31) zrun ?_; intro gb453 hg w10 hbox hb; have BK453 := am (hbox); have GW453 := am ((by rw [hg]; exact (below_size ((zb2 HB.out (IsS93.ge HI447.out) GE443.out))) : w.heap.size ≤ gb453)); have GE453 := am ((by rw [hg]; exact (below_size ((zb2 HB.out (IsS93.ge HI447.out) GE443.out))) : w.heap.size ≤ gb453)); obtain ⟨NB443_453, NB453_443⟩ := zne hg BK443; have NB447_453 := am ((by rw [hg]; exact Nat.ne_of_lt (IsS93.lt (show IsS93 w _ g447 t444 t451 t452 from (i93_1 HI447 NB447_443))) : g447 ≠ gb453)); have NB453_447 := am ((by rw [hg]; exact Nat.ne_of_gt (IsS93.lt (show IsS93 w _ g447 t444 t451 t452 from (i93_1 HI447 NB447_443))) : gb453 ≠ g447)); replace HO450 := zo hb HO450; replace BK443 := zk hb BK443; replace HB := am (below_step ((zb2 HB.out (IsS93.ge HI447.out) GE443.out)) hb); replace HI447 := am (IsS93.below (i93_1 HI447 NB447_443) hb); clear hb hbox hg; obtain ⟨Ao11, co11, eo11⟩ := Kd.R_slice HO450.out; subst eo11; obtain ⟨hnb12, hnc12⟩ := zn2 NB453_443; obtain ⟨hnb13, hnc13⟩ := zn2 NB453_447; obtain ⟨hcz14_0, hfz14_0⟩ := zc1 BK453.out) | ((with_reducible refine gate_store (t := 31) (p := 7) rfl ?_); refine store_event (t := 31) (p := 7) (v := ?vo_w15) (w1 := (w10.setCell ⟨gb453, 0, none⟩ (.slice Ao11 t448.length co11))) ?hg ?ho ?hn ?hr ?_; (case ho => rfl); (case hg => rfl); (case hn => rfl); (case hr => first | (go_simp; done) | (go_simp; rfl)); intro w15 hw; have n0_ : Aside0 (Kd.R k66 66 w15 w.heap.size (fun _ => True) (.slice Ao11 t448.length co11) t448) := ⟨(by rw [hw]; exact (rx (Kd.R_mono (Kd.R_far (p := ⟨gb453, 0, none⟩) (Kd.R_types HO450.out BK453.out (by decide)) (fun _ hk => hk.2) (.slice Ao11 t448.length co11)) (fun _ hk => trivial))))⟩; have n1_ : Aside0 (w15.heap[gb443]? = some (.cells #[.slice none 0 0] 31 (0, 0))) := ⟨(by rw [hw]; exact (zf1 BK443.out NB443_453.out))⟩; have n2_ : Aside0 (w15.heap[gb453]? = some (.cells #[.slice Ao11 t448.length co11] 31 (0, 0))) := ⟨(by rw [hw]; exact (zp0 BK453.out))⟩; have n3_ : Aside0 (IsS93 w w15 g447 t444 t451 t452) := ⟨(by rw [hw]; exact (i93_2 HI447 NB447_443 NB447_453))⟩; have n4_ : Aside0 (Below w.heap.size w w15) := ⟨(by rw [hw]; exact ((zb3 HB.out (IsS93.ge HI447.out) GE443.out GE453.out)))⟩; clear hw; clear HO450; clear BK443; clear BK453; clear HI447; clear HB; have HO450 := n0_; have BK443 := n1_; have BK453 := n2_; have HI447 := n3_; have HB := n4_; clear n0_ n1_ n2_ n3_ n4_; obtain ⟨hcz16_0, hfz16_0⟩ := zc1 BK453.out) | ((with_reducible refine gate_callee (f := 51) rfl ?_); refine goesL_ (some 15) rfl rfl Try.func51 (by kernel_rfl) rfl #[.pointer (some ⟨g447, 0, none⟩), .agg #[.slice Ao11 t448.length co11]] rfl zr ?_; (with_reducible refine (spec_l03Acts.calls k g447 t444 t451 t452 (fun k_ => some k_ = (.slice Ao11 t448.length co11 : Value).ownBlock) _ _ t448 t454 t457 t458 w _ ?side1 ?side2 ?side3 A4.out).mono ?_); (case side1 => exact i93_2 HI447 NB447_443 NB447_453); (case side2 => exact zb3 HB.out (IsS93.ge HI447.out) GE443.out GE453.out); (case side3 => exact Kd.V_mono (Kd.R_V (Kd.R_tight rfl (IsS93.apart HI447.out (Kd.R_types (Kd.R_types (HO450.out) BK443.out (by decide)) BK453.out (by decide)) (by decide)))) (fun k_ hk_ => ⟨hk_, ((IsS93.apart HI447.out (Kd.R_types (Kd.R_types (HO450.out) BK443.out (by decide)) BK453.out (by decide)) (by decide)).1 k_ hk_.symm).2⟩)); rintro e w17 ⟨v455, rfl, ho0, hi, hb, hk⟩; refine ⟨_, rfl, ?_⟩; have HO456 := am (Kd.R_lower (Kd.R_mono (ok' := fun k_ => True) ho0 (fun _ hk_ => trivial)) (below_size ((zb3 HB.out (IsS93.ge HI447.out) GE443.out GE453.out)))); replace BK443 := zkb hk BK443 NB443_447; replace HO450 := i93_r hk (show IsS93 w _ g447 t444 t451 t452 from (i93_2 HI447 NB447_443 NB447_453)) HO450; replace BK453 := zkb hk BK453 NB453_447; replace HB := am (hb); replace HI447 := am (hi); clear hb hk hi ho0))
 replace HO450 := am (Kd.R_drew HO450.out)
 replace HO456 := am (Kd.R_drew HO456.out)
 replace BK443 := zw BK443
 replace BK453 := zw BK453
 replace HI447 := am (IsS93.drew HI447.out)
 replace HB := am (below_drew1 HB.out)
 obtain ⟨Ao19, co19, eo19⟩ := Kd.R_slice HO456.out
 (first | subst eo19 | (injection eo19 with f1_ f2_ f3_; have f4_ := f1_.symm; have f5_ := f3_.symm; clear f1_ f2_ f3_; subst f4_; subst f5_))
 refine start_ (n := 13) (S := fun w' => w'.cell? ⟨gb453, 0, none⟩ = some (.slice Ao11 t448.length co11)) (ds := []) #[false, false, false, false, false, false, false, false, false, false, false, false, false] (by kernel_rfl) rfl rfl (ct BK453.out 0) (fun hHeld => ?_); refine with_tabW spec_DrawCutActs.tab4 spec_DrawCutActs.bits4 (fun HT_ HW_ => ?_)
 generalize w17.drew = w18 at HO450 HO456 BK443 BK453 HI447 HB hHeld ⊢
 refine zpu 1 17 #[false, true, false, false, false, false, false, false, false, false, false, false, false] HT_ ?_
 refine zpu 2 18 #[false, true, true, false, false, false, false, false, false, false, false, false, false] HT_ ?_
 refine zpu 3 19 #[false, true, true, true, false, false, false, false, false, false, false, false, false] HT_ ?_
 refine zpu 4 20 #[false, true, true, true, true, false, false, false, false, false, false, false, false] HT_ ?_
 refine zpu 5 21 #[false, true, true, true, true, true, false, false, false, false, false, false, false] HT_ ?_
 refine zpu 7 23 #[false, true, true, true, true, true, false, true, false, false, false, false, false] HT_ ?_
 refine ztk1 0 16 #[true, true, true, true, true, true, false, true, false, false, false, false, false] HT_ HW_ hHeld ?_
 refine zon 6 #[true, true, true, true, true, true, true, true, false, false, false, false, false] HT_ (fun K hK => ?_)
 refine goes_ Try.func52 (by kernel_rfl) rfl #[.pointer (some ⟨g447, 0, none⟩), .int .i64 (wrap64 ((t454.length : Int) + 1))] (by rfl) rfl rfl zr ?_
 with_reducible refine (spec_l01Place.calls g447 t444 t457 t458 (wrap64 ((t454.length : Int) + 1)) t459 t460 t461 w _ ?side1 ?side2 A5.out).mono ?_
 (case side1 => exact i93_2 HI447 NB447_443 NB447_453)
 (case side2 => exact zb3 HB.out (IsS93.ge HI447.out) GE443.out GE453.out)
 rintro e w20 ⟨rfl, hi, hb, hk⟩
 refine ⟨_, rfl, ?_⟩
 replace BK443 := zkb hk BK443 NB443_447
 replace HO450 := i93_r hk (show IsS93 w _ g447 t444 t457 t458 from (i93_2 HI447 NB447_443 NB447_453)) HO450
 replace BK453 := zkb hk BK453 NB453_447
 replace HO456 := i93_r hk (show IsS93 w _ g447 t444 t457 t458 from (i93_2 HI447 NB447_443 NB447_453)) HO456
 replace HB := am (hb)
 replace HI447 := am (hi)
 refine hK.out _ _ (ct BK453.out 0) (fun hHeld => ?_)
 clear hK K
 refine znm 22 ?_
 refine zon 8 #[true, true, true, true, true, true, true, true, true, false, false, false, false] HT_ (fun K hK => ?_)
 refine goes_ Try.func53 (by kernel_rfl) rfl #[.pointer (some ⟨g447, 0, none⟩)] (by rfl) rfl rfl zr ?_
 with_reducible refine (spec_l03Left.calls k g447 t444 t460 t461 t462 t465 t466 w _ ?side1 ?side2 A6.out).mono ?_
 (case side1 => exact i93_2 HI447 NB447_443 NB447_453)
 (case side2 => exact zb3 HB.out (IsS93.ge HI447.out) GE443.out GE453.out)
 rintro e w21 ⟨v463, rfl, ho0, hi, hb, hk⟩
 refine ⟨_, rfl, ?_⟩
 have HO464 := am (Kd.R_lower ho0 (below_size ((zb3 HB.out (IsS93.ge HI447.out) GE443.out GE453.out))))
 replace BK443 := zkb hk BK443 NB443_447
 replace HO450 := i93_r hk (show IsS93 w _ g447 t444 t460 t461 from (i93_2 HI447 NB447_443 NB447_453)) HO450
 replace BK453 := zkb hk BK453 NB453_447
 replace HO456 := i93_r hk (show IsS93 w _ g447 t444 t460 t461 from (i93_2 HI447 NB447_443 NB447_453)) HO456
 replace HB := am (hb)
 replace HI447 := am (hi)
 refine hK.out _ _ (ct BK453.out 0) (fun hHeld => ?_)
 clear hK K
 refine znm 24 ?_
 refine zon 9 #[true, true, true, true, true, true, true, true, true, true, false, false, false] HT_ (fun K hK => ?_)
 have hs22 : w21.cell? ⟨gb443, 0, none⟩ = some (.slice none 0 0) := ct BK443.out 0
 have hfs22 := blk_frozen BK443.out 0
 have hns22_1 := NB453_443.out
 have hms22_1 := NB443_453.out
 refine skip_ (w1 := ?_) (by rfl) rfl ?_ ?_
 rotate_left
 ·go_simp
  rfl
 refine hK.out _ _ (((cell_far (p := ⟨gb443, _, none⟩) NB453_443.out _).trans (hHeld))) (fun hHeld => ?_)
 clear hK K
 refine zpu 10 3 #[true, true, true, true, true, true, true, true, true, true, true, false, false] HT_ ?_
 refine zpu 11 4 #[true, true, true, true, true, true, true, true, true, true, true, true, false] HT_ ?_
 refine zpu 12 5 #[true, true, true, true, true, true, true, true, true, true, true, true, true] HT_ ?_
 refine zdn HT_ ?_
 try go_wp2
 refine bodyPost_ret (results_list (rs := [.cell 2 31, .tmp 3, .tmp 4, .tmp 5]) rfl (by simp) (.cell gb443 31 #[.slice Ao11 t448.length co11] (0, 0) _ rfl (zp0 BK443.out) Try.underlying31 rfl (by kernel_rfl) (.tmp (.tmp (.tmp .nil))))) rfl ?_
 exact ⟨_, _, _, by first | rfl | (simp [errW_none, errW_some] <;> rfl) | (simp [*, errW_none, errW_some] <;> rfl), rx (Kd.R_mono (Kd.R_far (p := ⟨gb443, 0, none⟩) (Kd.R_types HO450.out BK443.out (by decide)) (fun _ hk => hk.2) (.slice Ao11 t448.length co11)) (fun _ hk => trivial)), rx (Kd.R_mono (Kd.R_far (p := ⟨gb443, 0, none⟩) (Kd.R_types HO456.out BK443.out (by decide)) (fun _ hk => hk.2) (.slice Ao11 t448.length co11)) (fun _ hk => trivial)), rx (Kd.R_mono (Kd.R_far (p := ⟨gb443, 0, none⟩) (Kd.R_types HO464.out BK443.out (by decide)) (fun _ hk => hk.2) (.slice Ao11 t448.length co11)) (fun _ hk => trivial)), (zb3 HB.out (IsS93.ge HI447.out) GE443.out GE453.out)⟩

end Go.Proofs.Ytklbkkoojkmjbaa.QFnActs
