/- Written by the kit's print.py, called by our own print2.sh with one import more; not by print.sh. -/
import Derived.Test.YtogifkjkbfdocaaQFnExactReadJournalx0
import Derived.Test.YtogifkjkbfdocaaQFnExactReadJournalx8
import Derived.Test.YtogifkjkbfdocaaQFnExactReadJournalx11
import Derived.Test.YtogifkjkbfdocaaQFnExactReadJournalx12
namespace Go.Proofs.Ytogifkjkbfdocaa.QFnExactReadJournal
open Go.RowKit Go.Proofs.YtogifkjkbfdocaaW.PrintWords Go.Proofs.YtogifkjkbfdocaaW.PrintLast Go.Proofs.YtogifkjkbfdocaaW.PrintMore
attribute [local go_sem] max2_int min2_int max_two min_two max_three min_three max_four min_four   -- for this text's walks alone
open Go.Proofs.Ytogifkjkbfdocaa.Short
set_option linter.unusedVariables false
set_option linter.unusedSimpArgs false

/-! ### impl_LogPut: function 43 -/
def impl_LogPut.j0 : Nat → Int → Bool → Int → Int → List (S56) → Int → Int → ByteArray → Option (Int × Int × (List (S56)) × Bool)
 | 0, _, _, _, _, _, _, _, _ => none
 | k + 1, x1, x28, x264000, x264001, x264002, x265000, x265001, x265002 => if x28 = true then (some (0, 0, ([] : List (S56)), false)) else ((impl_copyLog.f x264000 x264001 x264002).bind fun bt270 => (if 0 ≤ (wrap64 ((wrap64 (x1 - x264000)) - 1)) then (if (wrap64 ((wrap64 (x1 - x264000)) - 1)) ≤ (bt270.2.2.length : Int) then ((some (bt270.2.2.take ((wrap64 ((wrap64 (x1 - x264000)) - 1)) : Int).toNat : List (S56))).bind fun y276 => (if y276.length < 4398046511104 then ((some (y276 ++ [(⟨x265000, x265001, x265002⟩ : S56)] : List (S56))).bind fun y279 => ((impl_LogOk.f k bt270.1 bt270.2.1 y279).bind fun t282 => (if t282 = true then (some (bt270.1, bt270.2.1, y279, true)) else (some (0, 0, ([] : List (S56)), false))))) else (none))) else (none)) else (none)))
def impl_LogPut.f (k : Nat) (a0_0 : Int) (a0_1 : Int) (l0_2 : List (S56)) (a1 : Int) (a2_0 : Int) (a2_1 : Int) (a2_2 : ByteArray) : Option (Int × Int × (List (S56)) × Bool) := (impl_LogLast.f a0_0 a0_1 l0_2).bind fun bt266 => ((impl_LogOk.f k a0_0 a0_1 l0_2).bind fun t268 => (if t268 = true then ((impl_within.f a1 (wrap64 (a0_0 + 1)) (wrap64 (bt266.1 + 1))).bind fun t269 => (impl_LogPut.j0 k a1 (!t269) a0_0 a0_1 l0_2 a2_0 a2_1 a2_2)) else (impl_LogPut.j0 k a1 true a0_0 a0_1 l0_2 a2_0 a2_1 a2_2)))
theorem impl_LogPut.mono_l : ∀ k, (∀ y0 y1 y2 y3 y4 y5 y6 y7, LeO (impl_LogPut.j0 k y0 y1 y2 y3 y4 y5 y6 y7) (impl_LogPut.j0 (k + 1) y0 y1 y2 y3 y4 y5 y6 y7))
 | 0 => fun _ _ _ _ _ _ _ _ r h => by simp [impl_LogPut.j0] at h
 | k + 1 => by
  have ih0 := impl_LogPut.mono_l k
  ·intro y0 y1 y2 y3 y4 y5 y6 y7
   unfold impl_LogPut.j0
   repeat' first
   | (with_reducible exact ih0 _ _ _ _ _ _ _ _)
   | (with_reducible exact impl_LogOk.mono _ _ _ _)
   | (with_reducible exact LeO.refl _)
   | (with_reducible exact LeO.none _)
   | (with_reducible refine LeO.ite ?_ ?_)
   | (with_reducible refine LeO.bind ?_ (fun _ => ?_))
   | exact ih0 _ _ _ _ _ _ _ _
   | exact impl_LogOk.mono _ _ _ _
   | exact LeO.none _
   | refine LeO.ite ?_ ?_
   | refine LeO.bind ?_ (fun _ => ?_)
theorem impl_LogPut.mono : ∀ a0 a1 a2 a3 a4 a5 a6 k, LeO (impl_LogPut.f k a0 a1 a2 a3 a4 a5 a6) (impl_LogPut.f (k + 1) a0 a1 a2 a3 a4 a5 a6) := by
 intro a0 a1 a2 a3 a4 a5 a6 k
 have ih0 := impl_LogPut.mono_l k
 unfold impl_LogPut.f
 repeat' first
   | (with_reducible exact ih0 _ _ _ _ _ _ _ _)
   | (with_reducible exact impl_LogOk.mono _ _ _ _)
   | (with_reducible exact LeO.refl _)
   | (with_reducible exact LeO.none _)
   | (with_reducible refine LeO.ite ?_ ?_)
   | (with_reducible refine LeO.bind ?_ (fun _ => ?_))
   | exact ih0 _ _ _ _ _ _ _ _
   | exact impl_LogOk.mono _ _ _ _
   | exact LeO.none _
   | refine LeO.ite ?_ ?_
   | refine LeO.bind ?_ (fun _ => ?_)
def impl_LogPut.T5 : Bool × List (List Nat × List Nat) := (true, [([], []), ([0], [0]), ([], []), ([], []), ([3], [3]), ([2, 4], [2, 4]), ([5], [5]), ([1, 6], [1, 6]), ([], []), ([8], [8]), ([7, 9], [7, 9]), ([0, 1, 2, 3, 4, 5, 6, 7, 8, 9, 10], []), ([11, 10, 10, 0, 1, 2, 3, 4, 5, 6, 7, 8, 9, 10], [10, 11])])
def impl_LogPut.B5 : List Nat := [0, 1, 0, 0, 8, 28, 60, 127, 0, 256, 1023, 2047, 4095]
theorem impl_LogPut.tab5 : rtab .any (opsOf Try.f43 5) = impl_LogPut.T5 := by kernel_rfl
theorem impl_LogPut.bits5 : waitsOk impl_LogPut.T5.2 impl_LogPut.B5 = true := by kernel_rfl
set_option maxHeartbeats 8000000 in
set_option maxRecDepth 100000 in
theorem impl_LogPut.calls (k : Nat) (a0_0 : Int) (a0_1 : Int) (A0_2 : Option Addr) (c0_2 : Nat) (l0_2 : List (S56)) (a1 : Int) (a2_0 : Int) (a2_1 : Int) (a2_2 : ByteArray) (r1 : Int) (r2 : Int) (r3 : List (S56)) (r4 : Bool) (w : World) (hr0_2 : Kd.C k56 w A0_2 l0_2.length l0_2) (hc0_2 : l0_2.length ≤ c0_2) (h : impl_LogPut.f k a0_0 a0_1 l0_2 a1 a2_0 a2_1 a2_2 = some (r1, r2, r3, r4)) :
  Calls Try.prog 43 #[.agg #[.int .i64 a0_0, .int .i64 a0_1, .slice A0_2 l0_2.length c0_2], .int .i64 a1, .agg #[.int .i64 a2_0, .int .i64 a2_1, .string a2_2]] w fun e w' => ∃ v2_ : Value, e = .returned (.tuple #[.agg #[.int .i64 r1, .int .i64 r2, v2_], .bool r4]) ∧ Kd.R k56 56 w' w.heap.size (fun _ => True) v2_ r3 ∧ Below w.heap.size w w' := by
 have hu24 := Try.underlying24
 have hu56 := Try.underlying56
 have HR0_2 := Aside0.mk hr0_2
 have HC0_2 := Aside0.mk hc0_2
 clear hr0_2 hc0_2
 have HB := Aside0.mk (Below.refl w.heap.size w)
 have H : ((impl_LogLast.f a0_0 a0_1 l0_2).bind fun bt266 => ((impl_LogOk.f k a0_0 a0_1 l0_2).bind fun t268 => (if t268 = true then ((impl_within.f a1 (wrap64 (a0_0 + 1)) (wrap64 (bt266.1 + 1))).bind fun t269 => (impl_LogPut.j0 k a1 (!t269) a0_0 a0_1 l0_2 a2_0 a2_1 a2_2)) else (impl_LogPut.j0 k a1 true a0_0 a0_1 l0_2 a2_0 a2_1 a2_2)))) = some (r1, r2, r3, r4) := h
 clear h
 replace H := Option.bind_eq_some_iff.mp H
 obtain ⟨⟨t266, t267⟩, A40, H⟩ := H
 try dsimp only at H
 have A4 := Aside0.mk A40
 clear A40
 have HC5 := Aside0.mk H
 clear H
 go_enter Try.func43, Try.ntmps43
 go_upto_region 2 with (first | ((with_reducible refine gate_dst (N := 3) rfl ?_); refine box_event rfl (N := 3) rfl (cs := #[.int .i64 a0_0, .int .i64 a0_1, .slice A0_2 l0_2.length c0_2]) (t := 24) zrun ?_; intro gb263 hg w6 hbox hb; have BK263 := am (hbox); have GE263 := zge hg (zb0 HB.out); replace HB := zs0 hb HB; clear hb hbox hg) | ((with_reducible refine gate_dst (N := 5) rfl ?_); refine box_event rfl (N := 5) rfl (cs := #[.int .i64 a2_0, .int .i64 a2_1, .string a2_2]) (t := 56) zrun ?_; intro gb264 hg w7 hbox hb; have BK264 := am (hbox); have GE264 := zge hg (zb1 HB.out GE263.out); obtain ⟨NB263_264, NB264_263⟩ := zne hg BK263; replace BK263 := zk hb BK263; replace HB := zs1 hb HB GE263; clear hb hbox hg) | ((with_reducible refine gate_dst (N := 6) rfl ?_); refine box_event rfl (N := 6) rfl (cs := #[.int .i64 0, .int .i64 0, .slice none 0 0]) (t := 24) zrun ?_; intro gb265 hg w8 hbox hb; have BK265 := am (hbox); have GE265 := zge hg (zb2 HB.out GE263.out GE264.out); obtain ⟨NB263_265, NB265_263⟩ := zne hg BK263; obtain ⟨NB264_265, NB265_264⟩ := zne hg BK264; replace BK263 := zk hb BK263; replace BK264 := zk hb BK264; replace HB := zs2 hb HB GE263 GE264; clear hb hbox hg; obtain ⟨hnb9, hnc9⟩ := zn2 NB263_264; obtain ⟨hnb10, hnc10⟩ := zn2 NB263_265; obtain ⟨hcz11_0, hcz11_1, hcz11_2, hfz11_0, hfz11_1, hfz11_2⟩ := zc3 BK263.out) | ((with_reducible refine gate_callee (f := 55) rfl ?_); refine goesL_ (some 13) rfl rfl Try.func55 (by kernel_rfl) rfl #[.agg #[.int .i64 a0_0, .int .i64 a0_1, .slice A0_2 l0_2.length c0_2]] rfl zr ?_; (with_reducible refine (impl_LogLast.calls a0_0 a0_1 _ _ l0_2 t266 t267 _ ?side1 ?side2 A4.out).mono ?_); (case side1 => repeat (first | exact (Kd.C_below HR0_2.out HB.out) | (with_reducible refine Kd.C_alloc ?_ _) | (with_reducible refine Kd.C_drewN ?_ _) | (with_reducible refine Kd.C_drew ?_))); (case side2 => exact HC0_2.out); rintro e w12 ⟨rfl, hb⟩; refine ⟨_, rfl, ?_⟩; replace BK263 := zk hb BK263; replace BK264 := zk hb BK264; replace BK265 := zk hb BK265; replace HB := zs3 hb HB GE263 GE264 GE265; clear hb))
 (try simp only [Act.put, List.setIfInBounds_toArray, List.set_cons_zero, List.set_cons_succ])
 go_cut [28] (fun v28 wc => ∃ (kq : Nat) (x28_4 : Bool), v28 = .bool x28_4 ∧ Aside0 (impl_LogPut.j0 kq a1 x28_4 a0_0 a0_1 l0_2 a2_0 a2_1 a2_2 = some (r1, r2, r3, r4)) ∧ Aside0 (kq ≤ k) ∧ Aside0 (wc.heap[gb263]? = some (.cells #[.int .i64 a0_0, .int .i64 a0_1, (.slice A0_2 l0_2.length c0_2)] 24 (0, 0))) ∧ Aside0 (wc.heap[gb264]? = some (.cells #[.int .i64 a2_0, .int .i64 a2_1, .string a2_2] 56 (0, 0))) ∧ Aside0 (wc.heap[gb265]? = some (.cells #[.int .i64 0, .int .i64 0, (.slice none 0 0)] 24 (0, 0))) ∧ Aside0 (Below w.heap.size w wc))
 case first =>
  have H := HC5.out
  clear HC5
  replace H := Option.bind_eq_some_iff.mp H
  obtain ⟨t268, A130, H⟩ := H
  try dsimp only at H
  have A13 := Aside0.mk A130
  clear A130
  by_cases c14 : t268 = true
  ·subst c14
   have H1 : ((impl_within.f a1 (wrap64 (a0_0 + 1)) (wrap64 (t266 + 1))).bind fun t269 => (impl_LogPut.j0 k a1 (!t269) a0_0 a0_1 l0_2 a2_0 a2_1 a2_2)) = some (r1, r2, r3, r4) := by rw [if_pos rfl] at H; exact H
   clear H
   have H := H1
   clear H1
   replace H := Option.bind_eq_some_iff.mp H
   obtain ⟨t269, A150, H⟩ := H
   try dsimp only at H
   have A15 := Aside0.mk A150
   clear A150
   have H' := Aside0.mk H
   clear H
   obtain ⟨hnb16, hnc16⟩ := zn2 NB263_264
   obtain ⟨hnb17, hnc17⟩ := zn2 NB263_265
   obtain ⟨hcz18_0, hcz18_1, hcz18_2, hfz18_0, hfz18_1, hfz18_2⟩ := zc3 BK263.out
   go_wp2_with (first | ((with_reducible refine gate_callee (f := 18) rfl ?_); refine goesL_ (some 17) rfl rfl Try.func18 (by kernel_rfl) rfl #[.agg #[.int .i64 a0_0, .int .i64 a0_1, .slice A0_2 l0_2.length c0_2]] rfl zr ?_; (with_reducible refine (impl_LogOk.calls k a0_0 a0_1 _ _ l0_2 true _ ?side1 ?side2 A13.out).mono ?_); (case side1 => repeat (first | exact (Kd.C_below HR0_2.out HB.out) | (with_reducible refine Kd.C_alloc ?_ _) | (with_reducible refine Kd.C_drewN ?_ _) | (with_reducible refine Kd.C_drew ?_))); (case side2 => exact HC0_2.out); rintro e w19 ⟨rfl, hb⟩; refine ⟨_, rfl, ?_⟩; replace BK263 := zk hb BK263; replace BK264 := zk hb BK264; replace BK265 := zk hb BK265; replace HB := zs3 hb HB GE263 GE264 GE265; clear hb; obtain ⟨hcz20_0, hcz20_1, hcz20_2, hfz20_0, hfz20_1, hfz20_2⟩ := zc3 BK263.out) | (go_at_call 16; (with_reducible refine (impl_within.calls a1 (wrap64 (a0_0 + 1)) (wrap64 (t266 + 1)) t269 _ A15.out).mono ?_); rintro e w' ⟨rfl, ⟨nd, rfl⟩⟩))
   go_meet
   case rel => exact ⟨_, (!t269), (by first | rfl | (simp; done) | (simp [*]; done)), H', ⟨by first | omega | exact Nat.le_refl _⟩, ⟨kx BK263.out⟩, ⟨kx BK264.out⟩, ⟨kx BK265.out⟩, ⟨zb3 HB.out GE263.out GE264.out GE265.out⟩⟩
  ·replace c14 := Bool.eq_false_iff.mpr c14
   subst c14
   have H1 : (impl_LogPut.j0 k a1 true a0_0 a0_1 l0_2 a2_0 a2_1 a2_2) = some (r1, r2, r3, r4) := by rw [if_neg (show ¬ (false = true) by decide)] at H; exact H
   clear H
   have H := H1
   clear H1
   have H' := Aside0.mk H
   clear H
   obtain ⟨hnb21, hnc21⟩ := zn2 NB263_264
   obtain ⟨hnb22, hnc22⟩ := zn2 NB263_265
   obtain ⟨hcz23_0, hcz23_1, hcz23_2, hfz23_0, hfz23_1, hfz23_2⟩ := zc3 BK263.out
   go_wp2_with (first | ((with_reducible refine gate_callee (f := 18) rfl ?_); refine goesL_ (some 17) rfl rfl Try.func18 (by kernel_rfl) rfl #[.agg #[.int .i64 a0_0, .int .i64 a0_1, .slice A0_2 l0_2.length c0_2]] rfl zr ?_; (with_reducible refine (impl_LogOk.calls k a0_0 a0_1 _ _ l0_2 false _ ?side1 ?side2 A13.out).mono ?_); (case side1 => repeat (first | exact (Kd.C_below HR0_2.out HB.out) | (with_reducible refine Kd.C_alloc ?_ _) | (with_reducible refine Kd.C_drewN ?_ _) | (with_reducible refine Kd.C_drew ?_))); (case side2 => exact HC0_2.out); rintro e w24 ⟨rfl, hb⟩; refine ⟨_, rfl, ?_⟩; replace BK263 := zk hb BK263; replace BK264 := zk hb BK264; replace BK265 := zk hb BK265; replace HB := zs3 hb HB GE263 GE264 GE265; clear hb))
   go_meet
   case rel => exact ⟨_, (true), (by first | rfl | (simp; done) | (simp [*]; done)), H', ⟨by first | omega | exact Nat.le_refl _⟩, ⟨kx BK263.out⟩, ⟨kx BK264.out⟩, ⟨kx BK265.out⟩, ⟨zb3 HB.out GE263.out GE264.out GE265.out⟩⟩
 case rest =>
  clear HC5
  obtain ⟨kq, x28_4, rfl, HA, HJ4, BK263, BK264, BK265, HB⟩ := hcut
  cases kq with
  | zero => exact absurd HA.out (by simp [impl_LogPut.j0])
  | succ kj4 =>
   have H := HA.out
   clear HA
   simp only [impl_LogPut.j0] at H
   by_cases c25 : x28_4 = true
   ·subst c25
    have H1 : (some (0, 0, ([] : List (S56)), false)) = some (r1, r2, r3, r4) := by rw [if_pos rfl] at H; exact H
    clear H
    have H := H1
    clear H1
    simp only [Option.some.injEq, Prod.mk.injEq] at H
    obtain ⟨rfl, rfl, rfl, rfl⟩ := H
    obtain ⟨hnb26, hnc26⟩ := zn2 NB265_263
    obtain ⟨hnb27, hnc27⟩ := zn2 NB265_264
    obtain ⟨hcz28_0, hcz28_1, hcz28_2, hfz28_0, hfz28_1, hfz28_2⟩ := zc3 BK265.out
    go_wp2
    refine bodyPost_ret (results_ct rfl _ _ gb265 24 #[.int .i64 0, .int .i64 0, .slice none 0 0] (0, 0) _ rfl (by (with_reducible repeat (first | refine blk_drewN ?_ _ | refine blk_drew ?_ | refine blk_alloc ?_ _)); refine blk_put (cs := #[.int .i64 0, .int .i64 0, .slice none 0 0]) ?_ 2 _ rfl; (with_reducible repeat (first | refine blk_drewN ?_ _ | refine blk_drew ?_ | refine blk_alloc ?_ _)); refine blk_put (cs := #[.int .i64 0, .int .i64 0, .slice none 0 0]) ?_ 1 _ rfl; (with_reducible repeat (first | refine blk_drewN ?_ _ | refine blk_drew ?_ | refine blk_alloc ?_ _)); refine blk_put (cs := #[.int .i64 0, .int .i64 0, .slice none 0 0]) ?_ 0 _ rfl; (with_reducible repeat (first | refine blk_drewN ?_ _ | refine blk_drew ?_ | refine blk_alloc ?_ _)); exact BK265.out) Try.underlying24 rfl (by kernel_rfl)) rfl ?_
    exact ⟨_, by first | rfl | (simp [errW_none, errW_some] <;> rfl) | (simp [*, errW_none, errW_some] <;> rfl), by first | exact Kd.R_nil _ _ _ _ _ | exact Kd.N_nil _ _ _ _ _ | exact Kd.V_nil _ _ _ _ _ | exact Kd.Q_nil _ _ _ _ _ | exact Kd.S_nil _ _ _ _ _, zb3 HB.out GE263.out GE264.out GE265.out⟩
   ·replace c25 := Bool.eq_false_iff.mpr c25
    subst c25
    have H1 : ((impl_copyLog.f a0_0 a0_1 l0_2).bind fun bt270 => (if 0 ≤ (wrap64 ((wrap64 (a1 - a0_0)) - 1)) then (if (wrap64 ((wrap64 (a1 - a0_0)) - 1)) ≤ (bt270.2.2.length : Int) then ((some (bt270.2.2.take ((wrap64 ((wrap64 (a1 - a0_0)) - 1)) : Int).toNat : List (S56))).bind fun y276 => (if y276.length < 4398046511104 then ((some (y276 ++ [(⟨a2_0, a2_1, a2_2⟩ : S56)] : List (S56))).bind fun y279 => ((impl_LogOk.f kj4 bt270.1 bt270.2.1 y279).bind fun t282 => (if t282 = true then (some (bt270.1, bt270.2.1, y279, true)) else (some (0, 0, ([] : List (S56)), false))))) else (none))) else (none)) else (none))) = some (r1, r2, r3, r4) := by rw [if_neg (show ¬ (false = true) by decide)] at H; exact H
    clear H
    have H := H1
    clear H1
    replace H := Option.bind_eq_some_iff.mp H
    obtain ⟨⟨t270, t271, t272⟩, A290, H⟩ := H
    try dsimp only at H
    have A29 := Aside0.mk A290
    clear A290
    obtain ⟨ji30, hji30⟩ : ∃ j_ : Int, (wrap64 ((wrap64 (a1 - a0_0)) - 1)) = j_ := ⟨_, rfl⟩
    replace H : (if 0 ≤ (ji30) then (if (ji30) ≤ (t272.length : Int) then ((some (t272.take ((ji30) : Int).toNat : List (S56))).bind fun y276 => (if y276.length < 4398046511104 then ((some (y276 ++ [(⟨a2_0, a2_1, a2_2⟩ : S56)] : List (S56))).bind fun y279 => ((impl_LogOk.f kj4 t270 t271 y279).bind fun t282 => (if t282 = true then (some (t270, t271, y279, true)) else (some (0, 0, ([] : List (S56)), false))))) else (none))) else (none)) else (none)) = some (r1, r2, r3, r4) := by first | (rw [hji30] at H; exact H) | (simp only [hji30] at H ⊢; exact H)
    (try rw [hji30] at A29)
    have hji30w : (IntKind.i64.wrap ((wrap64 (a1 - a0_0)) - 1)) = ji30 := (i64_w _).trans hji30
    by_cases c31 : 0 ≤ (ji30)
    ·rw [if_pos c31] at H
     have c31b0 := eq_true c31
     have c31b1 : decide (0 ≤ (ji30)) = true := decide_eq_true c31
     clear c31
     by_cases c32 : (ji30) ≤ (t272.length : Int)
     ·rw [if_pos c32] at H
      have c32b0 := eq_true c32
      have c32b1 : decide ((ji30) ≤ (t272.length : Int)) = true := decide_eq_true c32
      clear c32
      obtain ⟨y276, hy276⟩ : ∃ y_ : List (S56), y_ = (t272.take ((ji30) : Int).toNat) := ⟨_, rfl⟩
      replace H : (if y276.length < 4398046511104 then ((some (y276 ++ [(⟨a2_0, a2_1, a2_2⟩ : S56)] : List (S56))).bind fun y279 => ((impl_LogOk.f kj4 t270 t271 y279).bind fun t282 => (if t282 = true then (some (t270, t271, y279, true)) else (some (0, 0, ([] : List (S56)), false))))) else (none)) = some (r1, r2, r3, r4) := by first | (rw [hy276]; with_reducible exact H) | (have H2_ := (Option.bind_some _ _).symm.trans H; rw [hy276]; with_reducible exact H2_) | (have H2_ := (Option.bind_some _ _).symm.trans H; with_reducible exact H2_) | with_reducible exact H | (rw [hy276]; exact H) | exact H
      have Ny276 := Aside0.mk hy276
      clear hy276
      by_cases c33 : y276.length < 4398046511104
      ·rw [if_pos c33] at H
       have LMc33 := Aside0.mk c33
       clear c33
       obtain ⟨y279, hy279⟩ : ∃ y_ : List (S56), y_ = (y276 ++ [(⟨a2_0, a2_1, a2_2⟩ : S56)]) := ⟨_, rfl⟩
       replace H : ((impl_LogOk.f kj4 t270 t271 y279).bind fun t282 => (if t282 = true then (some (t270, t271, y279, true)) else (some (0, 0, ([] : List (S56)), false)))) = some (r1, r2, r3, r4) := by first | (rw [hy279]; with_reducible exact H) | (have H2_ := (Option.bind_some _ _).symm.trans H; rw [hy279]; with_reducible exact H2_) | (have H2_ := (Option.bind_some _ _).symm.trans H; with_reducible exact H2_) | with_reducible exact H | (rw [hy279]; exact H) | exact H
       have Ny279 := Aside0.mk hy279
       clear hy279
       replace H := Option.bind_eq_some_iff.mp H
       obtain ⟨t282, A340, H⟩ := H
       try dsimp only at H
       have A34 := Aside0.mk A340
       clear A340
       by_cases c35 : t282 = true
       ·subst c35
        have H1 : (some (t270, t271, y279, true)) = some (r1, r2, r3, r4) := by rw [if_pos rfl] at H; exact H
        clear H
        have H := H1
        clear H1
        simp only [Option.some.injEq, Prod.mk.injEq] at H
        obtain ⟨rfl, rfl, rfl, rfl⟩ := H
        obtain ⟨hnb36, hnc36⟩ := zn2 NB263_264
        obtain ⟨hnb37, hnc37⟩ := zn2 NB263_265
        obtain ⟨hcz38_0, hcz38_1, hcz38_2, hfz38_0, hfz38_1, hfz38_2⟩ := zc3 BK263.out
        try go_wp2_with (first | ((with_reducible refine gate_callee (f := 56) rfl ?_); refine goesL_ (some 31) rfl rfl Try.func56 (by kernel_rfl) rfl #[.agg #[.int .i64 a0_0, .int .i64 a0_1, .slice A0_2 l0_2.length c0_2]] rfl zr ?_; (with_reducible refine (impl_copyLog.calls a0_0 a0_1 _ _ l0_2 t270 t271 t272 _ ?side1 ?side2 A29.out).mono ?_); (case side1 => repeat (first | exact (Kd.C_below HR0_2.out HB.out) | (with_reducible refine Kd.C_alloc ?_ _) | (with_reducible refine Kd.C_drewN ?_ _) | (with_reducible refine Kd.C_drew ?_))); (case side2 => exact HC0_2.out); rintro e w39 ⟨v273, rfl, ho0, hb⟩; refine ⟨_, rfl, ?_⟩; have HO274 := am (Kd.R_lower (Kd.R_newB ho0 (g := gb264) (o := .cells #[.int .i64 a2_0, .int .i64 a2_1, .string a2_2] 56 (0, 0)) (kx BK264.out)) (below_size (zb3 HB.out GE263.out GE264.out GE265.out))); replace BK263 := zk hb BK263; replace BK264 := zk hb BK264; replace BK265 := zk hb BK265; replace HB := zs3 hb HB GE263 GE264 GE265; clear hb ho0) | ((with_reducible refine gate_dst (N := 10) rfl ?_); refine box_event rfl (N := 10) rfl (cs := #[.int .i64 0, .int .i64 0, .slice none 0 0]) (t := 24) zrun ?_; intro gb275 hg w40 hbox hb; have BK275 := am (hbox); have GW275 := zge hg (zb3 HB.out GE263.out GE264.out GE265.out); have GE275 := zge hg (zb3 HB.out GE263.out GE264.out GE265.out); obtain ⟨NB263_275, NB275_263⟩ := zne hg BK263; obtain ⟨NB264_275, NB275_264⟩ := zne hg BK264; obtain ⟨NB265_275, NB275_265⟩ := zne hg BK265; replace HO274 := am (Kd.R_below (rx HO274.out) hb); replace BK263 := zk hb BK263; replace BK264 := zk hb BK264; replace BK265 := zk hb BK265; replace HB := zs3 hb HB GE263 GE264 GE265; clear hb hbox hg; obtain ⟨hnb41, hnc41⟩ := zn2 NB275_263; obtain ⟨hnb42, hnc42⟩ := zn2 NB275_264; obtain ⟨hnb43, hnc43⟩ := zn2 NB275_265; obtain ⟨hcz44_0, hcz44_1, hcz44_2, hfz44_0, hfz44_1, hfz44_2⟩ := zc3 BK275.out; obtain ⟨Ao45, co45, eo45⟩ := Kd.R_slice HO274.out; subst eo45))
        have n0_ : Aside0 (Kd.R k56 56 (((w40.setCell ⟨gb275, 0, none⟩ (.int .i64 t270)).setCell ⟨gb275, 1, none⟩ (.int .i64 t271)).setCell ⟨gb275, 2, none⟩ (.slice Ao45 t272.length co45)) w.heap.size (fun k_ => k_ ≠ gb264) (.slice Ao45 t272.length co45) t272) := ⟨rx (Kd.R_mono (Kd.R_far (p := ⟨gb275, 2, none⟩) (Kd.R_far (p := ⟨gb275, 1, none⟩) (Kd.R_far (p := ⟨gb275, 0, none⟩) (Kd.R_types HO274.out BK275.out (by decide)) (fun _ hk => hk.2) (.int .i64 t270)) (fun _ hk => hk.2) (.int .i64 t271)) (fun _ hk => hk.2) (.slice Ao45 t272.length co45)) (fun _ hk => hk.1.2))⟩
        have n1_ : Aside0 ((((w40.setCell ⟨gb275, 0, none⟩ (.int .i64 t270)).setCell ⟨gb275, 1, none⟩ (.int .i64 t271)).setCell ⟨gb275, 2, none⟩ (.slice Ao45 t272.length co45)).heap[gb263]? = some (.cells #[.int .i64 a0_0, .int .i64 a0_1, .slice A0_2 l0_2.length c0_2] 24 (0, 0))) := ⟨zf1 BK263.out NB263_275.out⟩
        have n2_ : Aside0 ((((w40.setCell ⟨gb275, 0, none⟩ (.int .i64 t270)).setCell ⟨gb275, 1, none⟩ (.int .i64 t271)).setCell ⟨gb275, 2, none⟩ (.slice Ao45 t272.length co45)).heap[gb264]? = some (.cells #[.int .i64 a2_0, .int .i64 a2_1, .string a2_2] 56 (0, 0))) := ⟨zf1 BK264.out NB264_275.out⟩
        have n3_ : Aside0 ((((w40.setCell ⟨gb275, 0, none⟩ (.int .i64 t270)).setCell ⟨gb275, 1, none⟩ (.int .i64 t271)).setCell ⟨gb275, 2, none⟩ (.slice Ao45 t272.length co45)).heap[gb265]? = some (.cells #[.int .i64 0, .int .i64 0, .slice none 0 0] 24 (0, 0))) := ⟨zf1 BK265.out NB265_275.out⟩
        have n4_ : Aside0 ((((w40.setCell ⟨gb275, 0, none⟩ (.int .i64 t270)).setCell ⟨gb275, 1, none⟩ (.int .i64 t271)).setCell ⟨gb275, 2, none⟩ (.slice Ao45 t272.length co45)).heap[gb275]? = some (.cells #[.int .i64 t270, .int .i64 t271, .slice Ao45 t272.length co45] 24 (0, 0))) := ⟨by (with_reducible repeat (first | refine blk_drewN ?_ _ | refine blk_drew ?_ | refine blk_alloc ?_ _)); refine blk_put (cs := #[.int .i64 t270, .int .i64 t271, .slice none 0 0]) ?_ 2 _ rfl; (with_reducible repeat (first | refine blk_drewN ?_ _ | refine blk_drew ?_ | refine blk_alloc ?_ _)); refine blk_put (cs := #[.int .i64 t270, .int .i64 0, .slice none 0 0]) ?_ 1 _ rfl; (with_reducible repeat (first | refine blk_drewN ?_ _ | refine blk_drew ?_ | refine blk_alloc ?_ _)); refine blk_put (cs := #[.int .i64 0, .int .i64 0, .slice none 0 0]) ?_ 0 _ rfl; (with_reducible repeat (first | refine blk_drewN ?_ _ | refine blk_drew ?_ | refine blk_alloc ?_ _)); exact BK275.out⟩
        have n5_ : Aside0 (Below w.heap.size w (((w40.setCell ⟨gb275, 0, none⟩ (.int .i64 t270)).setCell ⟨gb275, 1, none⟩ (.int .i64 t271)).setCell ⟨gb275, 2, none⟩ (.slice Ao45 t272.length co45))) := ⟨zb4 HB.out GE263.out GE264.out GE265.out GE275.out⟩
        generalize (((w40.setCell ⟨gb275, 0, none⟩ (.int .i64 t270)).setCell ⟨gb275, 1, none⟩ (.int .i64 t271)).setCell ⟨gb275, 2, none⟩ (.slice Ao45 t272.length co45)) = w46 at n0_ n1_ n2_ n3_ n4_ n5_ ⊢
        have HO274 := n0_
        have BK263 := n1_
        have BK264 := n2_
        have BK265 := n3_
        have BK275 := n4_
        have HB := n5_
        clear n0_ n1_ n2_ n3_ n4_ n5_
        replace HO274 := am (Kd.R_drew HO274.out)
        replace BK263 := am (blk_drew BK263.out)
        replace BK264 := am (blk_drew BK264.out)
        replace BK265 := am (blk_drew BK265.out)
        replace BK275 := am (blk_drew BK275.out)
        replace HB := am (below_drew1 HB.out)
        have q48 : ((ji30) : Int) ≤ ((t272.length : Int) : Int) := of_decide_eq_true (by first | (with_reducible assumption) | assumption)
        obtain ⟨i048, hi048, _, hsz48, _⟩ := info_parts info56
        have hcut48 := cut_to (P := Try.prog) 22 56 .i64 Try.underlying22 hi048 Ao45 t272.length co45 (ji30) (of_decide_eq_true (by first | (with_reducible assumption) | assumption)) q48 (Kd.R_reads' HO274.out).2.1
        have hr48 := Kd.R_take (m := ((ji30) : Int).toNat) HO274.out (by omega)
        have hy48 : y276.length = ((ji30) : Int).toNat := (by rw [Ny276.out, List.length_take]; omega)
        rw [← Ny276.out] at hr48
        rw [← hy48] at hr48 hcut48
        clear hy48 hi048 hsz48 HO274
        have HO278 := Aside0.mk hr48
        clear hr48
        replace q48 := eq_true q48
        refine start_ (n := 13) (S := fun w' => w'.cell? ⟨gb275, 0, none⟩ = some (.int .i64 t270) ∧ w'.cell? ⟨gb275, 1, none⟩ = some (.int .i64 t271) ∧ w'.cell? ⟨gb275, 2, none⟩ = some (.slice Ao45 t272.length co45) ∧ w'.cell? ⟨gb263, 0, none⟩ = some (.int .i64 a0_0) ∧ w'.cell? ⟨gb263, 1, none⟩ = some (.int .i64 a0_1) ∧ w'.cell? ⟨gb263, 2, none⟩ = some (.slice A0_2 l0_2.length c0_2) ∧ w'.cell? ⟨gb264, 0, none⟩ = some (.int .i64 a2_0) ∧ w'.cell? ⟨gb264, 1, none⟩ = some (.int .i64 a2_1) ∧ w'.cell? ⟨gb264, 2, none⟩ = some (.string a2_2)) (ds := [12]) #[false, false, false, false, false, false, false, false, false, false, false, false, false] (by kernel_rfl) rfl rfl ⟨ct BK275.out 0, ct BK275.out 1, ct BK275.out 2, ct BK263.out 0, ct BK263.out 1, ct BK263.out 2, ct BK264.out 0, ct BK264.out 1, ct BK264.out 2⟩ (fun hHeld => ?_); refine with_tabW impl_LogPut.tab5 impl_LogPut.bits5 (fun HT_ HW_ => ?_)
        generalize w46.drew = w47 at BK263 BK264 BK265 BK275 HB HO278 hHeld ⊢
        refine zpu 0 32 #[true, false, false, false, false, false, false, false, false, false, false, false, false] HT_ ?_
        refine zpu 2 34 #[true, false, true, false, false, false, false, false, false, false, false, false, false] HT_ ?_
        refine zpu 3 35 #[true, false, true, true, false, false, false, false, false, false, false, false, false] HT_ ?_
        refine ztk9 1 33 #[true, true, true, true, false, false, false, false, false, false, false, false, false] HT_ HW_ hHeld ?_
        refine ztk9 4 36 #[true, true, true, true, true, false, false, false, false, false, false, false, false] HT_ HW_ hHeld ?_
        refine zpu 5 37 #[true, true, true, true, true, true, false, false, false, false, false, false, false] HT_ ?_
        refine zpu 6 38 #[true, true, true, true, true, true, true, false, false, false, false, false, false] HT_ ?_
        refine zpu 7 39 #[true, true, true, true, true, true, true, true, false, false, false, false, false] HT_ ?_
        refine ztk9 8 40 #[true, true, true, true, true, true, true, true, true, false, false, false, false] HT_ HW_ hHeld ?_
        refine zon 9 #[true, true, true, true, true, true, true, true, true, true, false, false, false] HT_ (fun K hK => ?_)
        refine value_ (w1 := ?_) (v := ?_) (by rfl) rfl ?_ ?_
        rotate_left 2
        ·go_simp
         constructor
         ·rfl
         ·rfl
        refine hK.out _ _ ⟨(blk_cell (blk_alloc BK275.out _) 0).trans rfl, (blk_cell (blk_alloc BK275.out _) 1).trans rfl, (blk_cell (blk_alloc BK275.out _) 2).trans rfl, (blk_cell (blk_alloc BK263.out _) 0).trans rfl, (blk_cell (blk_alloc BK263.out _) 1).trans rfl, (blk_cell (blk_alloc BK263.out _) 2).trans rfl, (blk_cell (blk_alloc BK264.out _) 0).trans rfl, (blk_cell (blk_alloc BK264.out _) 1).trans rfl, (blk_cell (blk_alloc BK264.out _) 2).trans rfl⟩ (fun hHeld => ?_)
        clear hK K
        refine znm 41 ?_
        refine zon 10 #[true, true, true, true, true, true, true, true, true, true, true, false, false] HT_ (fun K hK => ?_)
        refine Kd.R_append_step k56 (w0 := w) w.heap.size (by rfl) (.tmp 39) (.tmp 41) 22 56 (.agg #[(.int .i64 0), (.int .i64 0), (.string ⟨#[]⟩)]) 32 rfl Try.underlying22 info56 rfl (by decide) (by omega) (.slice Ao45 y276.length co45) y276 (⟨a2_0, a2_1, a2_2⟩ : S56) [.int .i64 a2_0, .int .i64 a2_1, .string a2_2] (fun k_ => k_ ≠ gb264) (fun _ => False) rfl rfl ?aP (fun _ hk => hk.elim) ?aF ?aO ?aB ?aS ?aL ?_
        (case aP => exact k56_mkM _ _ _ (⟨a2_0, a2_1, a2_2⟩ : S56))
        (case aB => exact (zb4 HB.out GE263.out GE264.out GE265.out GE275.out))
        (case aF => exact (fun k_ hk => Kd.freshB (g := gb264) (o := .cells #[.int .i64 a2_0, .int .i64 a2_1, .string a2_2] 56 (0, 0)) (kx BK264.out) k_ hk))
        (case aO => exact (rx HO278.out))
        (case aS => exact (below_size (zb4 HB.out GE263.out GE264.out GE265.out GE275.out)))
        (case aL => have := LMc33.out; omega)
        intro v280 w49 ho hb hg hat
        rw [← Ny279.out] at ho
        have HO281 := am (ho)
        replace BK263 := am (blk_grown (g := gb263) (o := .cells #[.int .i64 a0_0, .int .i64 a0_1, .slice A0_2 l0_2.length c0_2] 24 (0, 0)) (kx BK263.out) hg (Kd.R_ne HO278.out BK263.out (by decide)))
        replace BK264 := am (blk_grown (g := gb264) (o := .cells #[.int .i64 a2_0, .int .i64 a2_1, .string a2_2] 56 (0, 0)) (kx BK264.out) hg (Kd.R_away HO278.out (fun _ hk => hk)))
        replace BK265 := am (blk_grown (g := gb265) (o := .cells #[.int .i64 0, .int .i64 0, .slice none 0 0] 24 (0, 0)) (kx BK265.out) hg (Kd.R_ne HO278.out BK265.out (by decide)))
        replace BK275 := am (blk_grown (g := gb275) (o := .cells #[.int .i64 t270, .int .i64 t271, .slice Ao45 t272.length co45] 24 (0, 0)) (kx BK275.out) hg (Kd.R_ne HO278.out BK275.out (by decide)))
        replace HB := am (hb)
        clear HO278 ho hb hg hat
        obtain ⟨Ao50, co50, eo50⟩ := Kd.R_slice HO281.out
        (first | subst eo50 | (injection eo50 with f1_ f2_ f3_; have f4_ := f1_.symm; have f5_ := f3_.symm; clear f1_ f2_ f3_; subst f4_; subst f5_))
        refine hK.out _ _ ⟨ct BK275.out 0, ct BK275.out 1, ct BK275.out 2, ct BK263.out 0, ct BK263.out 1, ct BK263.out 2, ct BK264.out 0, ct BK264.out 1, ct BK264.out 2⟩ (fun hHeld => ?_)
        clear hK K
        refine znm 42 ?_
        refine zpu 11 43 #[true, true, true, true, true, true, true, true, true, true, true, true, false] HT_ ?_
        refine last_ (i := 12) (N := none) #[true, true, true, true, true, true, true, true, true, true, true, true, true] rfl rfl (one_of HT_.out (by kernel_rfl)) (by decide) (fun K hK => ?_)
        have hs51 : w49.cell? ⟨gb275, 2, none⟩ = some (.slice Ao45 t272.length co45) := ct BK275.out 2
        have hfs51 := blk_frozen BK275.out 2
        have hns51_0 := NB263_275.out
        have hns51_1 := NB264_275.out
        have hns51_2 := NB265_275.out
        have hms51_0 := NB275_263.out
        have hms51_1 := NB275_264.out
        have hms51_2 := NB275_265.out
        refine skip_ (w1 := ?_) (by rfl) rfl ?_ ?_
        rotate_left
        ·go_simp
         rfl
        refine hK.out _ _ ?_
        clear hK K
        refine zdn HT_ ?_
        obtain ⟨hcz52_0, hcz52_1, hcz52_2, hfz52_0, hfz52_1, hfz52_2⟩ := zc3 BK275.out
        try go_wp2_with (first | ((with_reducible refine gate_callee (f := 18) rfl ?_); refine goesL_ (some 45) rfl rfl Try.func18 (by kernel_rfl) rfl #[.agg #[.int .i64 t270, .int .i64 t271, .slice Ao50 y279.length co50]] rfl zr ?_; (with_reducible refine (impl_LogOk.calls kj4 t270 t271 _ _ y279 true _ ?side1 ?side2 A34.out).mono ?_); (case side1 => refine (Kd.R_reads' (e := 56) (base := w.heap.size) (ok := fun k_ => k_ ≠ gb264) (n := y279.length) (c := co50) ?_).2.2; exact (rx ((Kd.R_mono (Kd.R_far (p := ⟨gb275, 2, none⟩) (Kd.R_types HO281.out BK275.out (by decide)) (fun _ hk => hk.2) (.slice Ao50 y279.length co50)) (fun _ h_ => h_.1))))); (case side2 => exact (Kd.R_reads' HO281.out).2.1); rintro e w53 ⟨rfl, hb⟩; refine ⟨_, rfl, ?_⟩; replace HO281 := am (Kd.R_below (rx ((Kd.R_mono (Kd.R_far (p := ⟨gb275, 2, none⟩) (Kd.R_types HO281.out BK275.out (by decide)) (fun _ hk => hk.2) (.slice Ao50 y279.length co50)) (fun _ h_ => h_.1)))) hb); replace BK263 := zh1 hb BK263 NB263_275; replace BK264 := zh1 hb BK264 NB264_275; replace BK265 := zh1 hb BK265 NB265_275; replace BK275 := am (blk_below (g := gb275) (o := .cells #[.int .i64 t270, .int .i64 t271, .slice Ao50 y279.length co50] 24 (0, 0)) (by (with_reducible repeat (first | refine blk_drewN ?_ _ | refine blk_drew ?_ | refine blk_alloc ?_ _)); refine blk_put (cs := #[.int .i64 t270, .int .i64 t271, .slice Ao45 t272.length co45]) ?_ 2 _ rfl; (with_reducible repeat (first | refine blk_drewN ?_ _ | refine blk_drew ?_ | refine blk_alloc ?_ _)); exact BK275.out) hb); replace HB := zs4 hb HB GE263 GE264 GE265 GE275; clear hb; obtain ⟨hcz54_0, hcz54_1, hcz54_2, hfz54_0, hfz54_1, hfz54_2⟩ := zc3 BK275.out; obtain ⟨hnb55, hnc55⟩ := zn2 NB265_264; obtain ⟨hcz56_0, hcz56_1, hcz56_2, hfz56_0, hfz56_1, hfz56_2⟩ := zc3 BK265.out))
        refine bodyPost_ret (results_ct rfl _ _ gb265 24 #[.int .i64 t270, .int .i64 t271, .slice Ao50 y279.length co50] (0, 0) _ rfl (by (with_reducible repeat (first | refine blk_drewN ?_ _ | refine blk_drew ?_ | refine blk_alloc ?_ _)); refine blk_put (cs := #[.int .i64 t270, .int .i64 t271, .slice none 0 0]) ?_ 2 _ rfl; (with_reducible repeat (first | refine blk_drewN ?_ _ | refine blk_drew ?_ | refine blk_alloc ?_ _)); refine blk_put (cs := #[.int .i64 t270, .int .i64 0, .slice none 0 0]) ?_ 1 _ rfl; (with_reducible repeat (first | refine blk_drewN ?_ _ | refine blk_drew ?_ | refine blk_alloc ?_ _)); refine blk_put (cs := #[.int .i64 0, .int .i64 0, .slice none 0 0]) ?_ 0 _ rfl; (with_reducible repeat (first | refine blk_drewN ?_ _ | refine blk_drew ?_ | refine blk_alloc ?_ _)); exact BK265.out) Try.underlying24 rfl (by kernel_rfl)) rfl ?_
        exact ⟨_, by first | rfl | (simp [errW_none, errW_some] <;> rfl) | (simp only [← hji30]; first | rfl | (simp [errW_none, errW_some] <;> rfl)) | (simp [*, errW_none, errW_some] <;> rfl), rx (Kd.R_mono (Kd.R_far (p := ⟨gb265, 2, none⟩) (Kd.R_far (p := ⟨gb265, 1, none⟩) (Kd.R_far (p := ⟨gb265, 0, none⟩) (Kd.R_types HO281.out BK265.out (by decide)) (fun _ hk => hk.2) (.int .i64 t270)) (fun _ hk => hk.2) (.int .i64 t271)) (fun _ hk => hk.2) (.slice Ao50 y279.length co50)) (fun _ hk => trivial)), zb4 HB.out GE263.out GE264.out GE265.out GE275.out⟩
       ·replace c35 := Bool.eq_false_iff.mpr c35
        subst c35
        have H1 : (some (0, 0, ([] : List (S56)), false)) = some (r1, r2, r3, r4) := by rw [if_neg (show ¬ (false = true) by decide)] at H; exact H
        clear H
        have H := H1
        clear H1
        simp only [Option.some.injEq, Prod.mk.injEq] at H
        obtain ⟨rfl, rfl, rfl, rfl⟩ := H
        obtain ⟨hnb57, hnc57⟩ := zn2 NB263_264
        obtain ⟨hnb58, hnc58⟩ := zn2 NB263_265
        obtain ⟨hcz59_0, hcz59_1, hcz59_2, hfz59_0, hfz59_1, hfz59_2⟩ := zc3 BK263.out
        try go_wp2_with (first | ((with_reducible refine gate_callee (f := 56) rfl ?_); refine goesL_ (some 31) rfl rfl Try.func56 (by kernel_rfl) rfl #[.agg #[.int .i64 a0_0, .int .i64 a0_1, .slice A0_2 l0_2.length c0_2]] rfl zr ?_; (with_reducible refine (impl_copyLog.calls a0_0 a0_1 _ _ l0_2 t270 t271 t272 _ ?side1 ?side2 A29.out).mono ?_); (case side1 => repeat (first | exact (Kd.C_below HR0_2.out HB.out) | (with_reducible refine Kd.C_alloc ?_ _) | (with_reducible refine Kd.C_drewN ?_ _) | (with_reducible refine Kd.C_drew ?_))); (case side2 => exact HC0_2.out); rintro e w60 ⟨v273, rfl, ho0, hb⟩; refine ⟨_, rfl, ?_⟩; have HO274 := am (Kd.R_lower (Kd.R_newB ho0 (g := gb264) (o := .cells #[.int .i64 a2_0, .int .i64 a2_1, .string a2_2] 56 (0, 0)) (kx BK264.out)) (below_size (zb3 HB.out GE263.out GE264.out GE265.out))); replace BK263 := zk hb BK263; replace BK264 := zk hb BK264; replace BK265 := zk hb BK265; replace HB := zs3 hb HB GE263 GE264 GE265; clear hb ho0) | ((with_reducible refine gate_dst (N := 10) rfl ?_); refine box_event rfl (N := 10) rfl (cs := #[.int .i64 0, .int .i64 0, .slice none 0 0]) (t := 24) zrun ?_; intro gb275 hg w61 hbox hb; have BK275 := am (hbox); have GW275 := zge hg (zb3 HB.out GE263.out GE264.out GE265.out); have GE275 := zge hg (zb3 HB.out GE263.out GE264.out GE265.out); obtain ⟨NB263_275, NB275_263⟩ := zne hg BK263; obtain ⟨NB264_275, NB275_264⟩ := zne hg BK264; obtain ⟨NB265_275, NB275_265⟩ := zne hg BK265; replace HO274 := am (Kd.R_below (rx HO274.out) hb); replace BK263 := zk hb BK263; replace BK264 := zk hb BK264; replace BK265 := zk hb BK265; replace HB := zs3 hb HB GE263 GE264 GE265; clear hb hbox hg; obtain ⟨hnb62, hnc62⟩ := zn2 NB275_263; obtain ⟨hnb63, hnc63⟩ := zn2 NB275_264; obtain ⟨hnb64, hnc64⟩ := zn2 NB275_265; obtain ⟨hcz65_0, hcz65_1, hcz65_2, hfz65_0, hfz65_1, hfz65_2⟩ := zc3 BK275.out; obtain ⟨Ao66, co66, eo66⟩ := Kd.R_slice HO274.out; subst eo66))
        have n0_ : Aside0 (Kd.R k56 56 (((w61.setCell ⟨gb275, 0, none⟩ (.int .i64 t270)).setCell ⟨gb275, 1, none⟩ (.int .i64 t271)).setCell ⟨gb275, 2, none⟩ (.slice Ao66 t272.length co66)) w.heap.size (fun k_ => k_ ≠ gb264) (.slice Ao66 t272.length co66) t272) := ⟨rx (Kd.R_mono (Kd.R_far (p := ⟨gb275, 2, none⟩) (Kd.R_far (p := ⟨gb275, 1, none⟩) (Kd.R_far (p := ⟨gb275, 0, none⟩) (Kd.R_types HO274.out BK275.out (by decide)) (fun _ hk => hk.2) (.int .i64 t270)) (fun _ hk => hk.2) (.int .i64 t271)) (fun _ hk => hk.2) (.slice Ao66 t272.length co66)) (fun _ hk => hk.1.2))⟩
        have n1_ : Aside0 ((((w61.setCell ⟨gb275, 0, none⟩ (.int .i64 t270)).setCell ⟨gb275, 1, none⟩ (.int .i64 t271)).setCell ⟨gb275, 2, none⟩ (.slice Ao66 t272.length co66)).heap[gb263]? = some (.cells #[.int .i64 a0_0, .int .i64 a0_1, .slice A0_2 l0_2.length c0_2] 24 (0, 0))) := ⟨zf1 BK263.out NB263_275.out⟩
        have n2_ : Aside0 ((((w61.setCell ⟨gb275, 0, none⟩ (.int .i64 t270)).setCell ⟨gb275, 1, none⟩ (.int .i64 t271)).setCell ⟨gb275, 2, none⟩ (.slice Ao66 t272.length co66)).heap[gb264]? = some (.cells #[.int .i64 a2_0, .int .i64 a2_1, .string a2_2] 56 (0, 0))) := ⟨zf1 BK264.out NB264_275.out⟩
        have n3_ : Aside0 ((((w61.setCell ⟨gb275, 0, none⟩ (.int .i64 t270)).setCell ⟨gb275, 1, none⟩ (.int .i64 t271)).setCell ⟨gb275, 2, none⟩ (.slice Ao66 t272.length co66)).heap[gb265]? = some (.cells #[.int .i64 0, .int .i64 0, .slice none 0 0] 24 (0, 0))) := ⟨zf1 BK265.out NB265_275.out⟩
        have n4_ : Aside0 ((((w61.setCell ⟨gb275, 0, none⟩ (.int .i64 t270)).setCell ⟨gb275, 1, none⟩ (.int .i64 t271)).setCell ⟨gb275, 2, none⟩ (.slice Ao66 t272.length co66)).heap[gb275]? = some (.cells #[.int .i64 t270, .int .i64 t271, .slice Ao66 t272.length co66] 24 (0, 0))) := ⟨by (with_reducible repeat (first | refine blk_drewN ?_ _ | refine blk_drew ?_ | refine blk_alloc ?_ _)); refine blk_put (cs := #[.int .i64 t270, .int .i64 t271, .slice none 0 0]) ?_ 2 _ rfl; (with_reducible repeat (first | refine blk_drewN ?_ _ | refine blk_drew ?_ | refine blk_alloc ?_ _)); refine blk_put (cs := #[.int .i64 t270, .int .i64 0, .slice none 0 0]) ?_ 1 _ rfl; (with_reducible repeat (first | refine blk_drewN ?_ _ | refine blk_drew ?_ | refine blk_alloc ?_ _)); refine blk_put (cs := #[.int .i64 0, .int .i64 0, .slice none 0 0]) ?_ 0 _ rfl; (with_reducible repeat (first | refine blk_drewN ?_ _ | refine blk_drew ?_ | refine blk_alloc ?_ _)); exact BK275.out⟩
        have n5_ : Aside0 (Below w.heap.size w (((w61.setCell ⟨gb275, 0, none⟩ (.int .i64 t270)).setCell ⟨gb275, 1, none⟩ (.int .i64 t271)).setCell ⟨gb275, 2, none⟩ (.slice Ao66 t272.length co66))) := ⟨zb4 HB.out GE263.out GE264.out GE265.out GE275.out⟩
        generalize (((w61.setCell ⟨gb275, 0, none⟩ (.int .i64 t270)).setCell ⟨gb275, 1, none⟩ (.int .i64 t271)).setCell ⟨gb275, 2, none⟩ (.slice Ao66 t272.length co66)) = w67 at n0_ n1_ n2_ n3_ n4_ n5_ ⊢
        have HO274 := n0_
        have BK263 := n1_
        have BK264 := n2_
        have BK265 := n3_
        have BK275 := n4_
        have HB := n5_
        clear n0_ n1_ n2_ n3_ n4_ n5_
        replace HO274 := am (Kd.R_drew HO274.out)
        replace BK263 := am (blk_drew BK263.out)
        replace BK264 := am (blk_drew BK264.out)
        replace BK265 := am (blk_drew BK265.out)
        replace BK275 := am (blk_drew BK275.out)
        replace HB := am (below_drew1 HB.out)
        have q69 : ((ji30) : Int) ≤ ((t272.length : Int) : Int) := of_decide_eq_true (by first | (with_reducible assumption) | assumption)
        obtain ⟨i069, hi069, _, hsz69, _⟩ := info_parts info56
        have hcut69 := cut_to (P := Try.prog) 22 56 .i64 Try.underlying22 hi069 Ao66 t272.length co66 (ji30) (of_decide_eq_true (by first | (with_reducible assumption) | assumption)) q69 (Kd.R_reads' HO274.out).2.1
        have hr69 := Kd.R_take (m := ((ji30) : Int).toNat) HO274.out (by omega)
        have hy69 : y276.length = ((ji30) : Int).toNat := (by rw [Ny276.out, List.length_take]; omega)
        rw [← Ny276.out] at hr69
        rw [← hy69] at hr69 hcut69
        clear hy69 hi069 hsz69 HO274
        have HO278 := Aside0.mk hr69
        clear hr69
        replace q69 := eq_true q69
        refine start_ (n := 13) (S := fun w' => w'.cell? ⟨gb275, 0, none⟩ = some (.int .i64 t270) ∧ w'.cell? ⟨gb275, 1, none⟩ = some (.int .i64 t271) ∧ w'.cell? ⟨gb275, 2, none⟩ = some (.slice Ao66 t272.length co66) ∧ w'.cell? ⟨gb263, 0, none⟩ = some (.int .i64 a0_0) ∧ w'.cell? ⟨gb263, 1, none⟩ = some (.int .i64 a0_1) ∧ w'.cell? ⟨gb263, 2, none⟩ = some (.slice A0_2 l0_2.length c0_2) ∧ w'.cell? ⟨gb264, 0, none⟩ = some (.int .i64 a2_0) ∧ w'.cell? ⟨gb264, 1, none⟩ = some (.int .i64 a2_1) ∧ w'.cell? ⟨gb264, 2, none⟩ = some (.string a2_2)) (ds := [12]) #[false, false, false, false, false, false, false, false, false, false, false, false, false] (by kernel_rfl) rfl rfl ⟨ct BK275.out 0, ct BK275.out 1, ct BK275.out 2, ct BK263.out 0, ct BK263.out 1, ct BK263.out 2, ct BK264.out 0, ct BK264.out 1, ct BK264.out 2⟩ (fun hHeld => ?_); refine with_tabW impl_LogPut.tab5 impl_LogPut.bits5 (fun HT_ HW_ => ?_)
        generalize w67.drew = w68 at BK263 BK264 BK265 BK275 HB HO278 hHeld ⊢
        refine zpu 0 32 #[true, false, false, false, false, false, false, false, false, false, false, false, false] HT_ ?_
        refine zpu 2 34 #[true, false, true, false, false, false, false, false, false, false, false, false, false] HT_ ?_
        refine zpu 3 35 #[true, false, true, true, false, false, false, false, false, false, false, false, false] HT_ ?_
        refine ztk9 1 33 #[true, true, true, true, false, false, false, false, false, false, false, false, false] HT_ HW_ hHeld ?_
        refine ztk9 4 36 #[true, true, true, true, true, false, false, false, false, false, false, false, false] HT_ HW_ hHeld ?_
        refine zpu 5 37 #[true, true, true, true, true, true, false, false, false, false, false, false, false] HT_ ?_
        refine zpu 6 38 #[true, true, true, true, true, true, true, false, false, false, false, false, false] HT_ ?_
        refine zpu 7 39 #[true, true, true, true, true, true, true, true, false, false, false, false, false] HT_ ?_
        refine ztk9 8 40 #[true, true, true, true, true, true, true, true, true, false, false, false, false] HT_ HW_ hHeld ?_
        refine zon 9 #[true, true, true, true, true, true, true, true, true, true, false, false, false] HT_ (fun K hK => ?_)
        refine value_ (w1 := ?_) (v := ?_) (by rfl) rfl ?_ ?_
        rotate_left 2
        ·go_simp
         constructor
         ·rfl
         ·rfl
        refine hK.out _ _ ⟨(blk_cell (blk_alloc BK275.out _) 0).trans rfl, (blk_cell (blk_alloc BK275.out _) 1).trans rfl, (blk_cell (blk_alloc BK275.out _) 2).trans rfl, (blk_cell (blk_alloc BK263.out _) 0).trans rfl, (blk_cell (blk_alloc BK263.out _) 1).trans rfl, (blk_cell (blk_alloc BK263.out _) 2).trans rfl, (blk_cell (blk_alloc BK264.out _) 0).trans rfl, (blk_cell (blk_alloc BK264.out _) 1).trans rfl, (blk_cell (blk_alloc BK264.out _) 2).trans rfl⟩ (fun hHeld => ?_)
        clear hK K
        refine znm 41 ?_
        refine zon 10 #[true, true, true, true, true, true, true, true, true, true, true, false, false] HT_ (fun K hK => ?_)
        refine Kd.R_append_step k56 (w0 := w) w.heap.size (by rfl) (.tmp 39) (.tmp 41) 22 56 (.agg #[(.int .i64 0), (.int .i64 0), (.string ⟨#[]⟩)]) 32 rfl Try.underlying22 info56 rfl (by decide) (by omega) (.slice Ao66 y276.length co66) y276 (⟨a2_0, a2_1, a2_2⟩ : S56) [.int .i64 a2_0, .int .i64 a2_1, .string a2_2] (fun k_ => k_ ≠ gb264) (fun _ => False) rfl rfl ?aP (fun _ hk => hk.elim) ?aF ?aO ?aB ?aS ?aL ?_
        (case aP => exact k56_mkM _ _ _ (⟨a2_0, a2_1, a2_2⟩ : S56))
        (case aB => exact (zb4 HB.out GE263.out GE264.out GE265.out GE275.out))
        (case aF => exact (fun k_ hk => Kd.freshB (g := gb264) (o := .cells #[.int .i64 a2_0, .int .i64 a2_1, .string a2_2] 56 (0, 0)) (kx BK264.out) k_ hk))
        (case aO => exact (rx HO278.out))
        (case aS => exact (below_size (zb4 HB.out GE263.out GE264.out GE265.out GE275.out)))
        (case aL => have := LMc33.out; omega)
        intro v280 w70 ho hb hg hat
        rw [← Ny279.out] at ho
        have HO281 := am (ho)
        replace BK263 := am (blk_grown (g := gb263) (o := .cells #[.int .i64 a0_0, .int .i64 a0_1, .slice A0_2 l0_2.length c0_2] 24 (0, 0)) (kx BK263.out) hg (Kd.R_ne HO278.out BK263.out (by decide)))
        replace BK264 := am (blk_grown (g := gb264) (o := .cells #[.int .i64 a2_0, .int .i64 a2_1, .string a2_2] 56 (0, 0)) (kx BK264.out) hg (Kd.R_away HO278.out (fun _ hk => hk)))
        replace BK265 := am (blk_grown (g := gb265) (o := .cells #[.int .i64 0, .int .i64 0, .slice none 0 0] 24 (0, 0)) (kx BK265.out) hg (Kd.R_ne HO278.out BK265.out (by decide)))
        replace BK275 := am (blk_grown (g := gb275) (o := .cells #[.int .i64 t270, .int .i64 t271, .slice Ao66 t272.length co66] 24 (0, 0)) (kx BK275.out) hg (Kd.R_ne HO278.out BK275.out (by decide)))
        replace HB := am (hb)
        clear HO278 ho hb hg hat
        obtain ⟨Ao71, co71, eo71⟩ := Kd.R_slice HO281.out
        (first | subst eo71 | (injection eo71 with f1_ f2_ f3_; have f4_ := f1_.symm; have f5_ := f3_.symm; clear f1_ f2_ f3_; subst f4_; subst f5_))
        refine hK.out _ _ ⟨ct BK275.out 0, ct BK275.out 1, ct BK275.out 2, ct BK263.out 0, ct BK263.out 1, ct BK263.out 2, ct BK264.out 0, ct BK264.out 1, ct BK264.out 2⟩ (fun hHeld => ?_)
        clear hK K
        refine znm 42 ?_
        refine zpu 11 43 #[true, true, true, true, true, true, true, true, true, true, true, true, false] HT_ ?_
        refine last_ (i := 12) (N := none) #[true, true, true, true, true, true, true, true, true, true, true, true, true] rfl rfl (one_of HT_.out (by kernel_rfl)) (by decide) (fun K hK => ?_)
        have hs72 : w70.cell? ⟨gb275, 2, none⟩ = some (.slice Ao66 t272.length co66) := ct BK275.out 2
        have hfs72 := blk_frozen BK275.out 2
        have hns72_0 := NB263_275.out
        have hns72_1 := NB264_275.out
        have hns72_2 := NB265_275.out
        have hms72_0 := NB275_263.out
        have hms72_1 := NB275_264.out
        have hms72_2 := NB275_265.out
        refine skip_ (w1 := ?_) (by rfl) rfl ?_ ?_
        rotate_left
        ·go_simp
         rfl
        refine hK.out _ _ ?_
        clear hK K
        refine zdn HT_ ?_
        obtain ⟨hcz73_0, hcz73_1, hcz73_2, hfz73_0, hfz73_1, hfz73_2⟩ := zc3 BK275.out
        try go_wp2_with (first | ((with_reducible refine gate_callee (f := 18) rfl ?_); refine goesL_ (some 45) rfl rfl Try.func18 (by kernel_rfl) rfl #[.agg #[.int .i64 t270, .int .i64 t271, .slice Ao71 y279.length co71]] rfl zr ?_; (with_reducible refine (impl_LogOk.calls kj4 t270 t271 _ _ y279 false _ ?side1 ?side2 A34.out).mono ?_); (case side1 => refine (Kd.R_reads' (e := 56) (base := w.heap.size) (ok := fun k_ => k_ ≠ gb264) (n := y279.length) (c := co71) ?_).2.2; exact (rx ((Kd.R_mono (Kd.R_far (p := ⟨gb275, 2, none⟩) (Kd.R_types HO281.out BK275.out (by decide)) (fun _ hk => hk.2) (.slice Ao71 y279.length co71)) (fun _ h_ => h_.1))))); (case side2 => exact (Kd.R_reads' HO281.out).2.1); rintro e w74 ⟨rfl, hb⟩; refine ⟨_, rfl, ?_⟩; replace HO281 := am (Kd.R_below (rx ((Kd.R_mono (Kd.R_far (p := ⟨gb275, 2, none⟩) (Kd.R_types HO281.out BK275.out (by decide)) (fun _ hk => hk.2) (.slice Ao71 y279.length co71)) (fun _ h_ => h_.1)))) hb); replace BK263 := zh1 hb BK263 NB263_275; replace BK264 := zh1 hb BK264 NB264_275; replace BK265 := zh1 hb BK265 NB265_275; replace BK275 := am (blk_below (g := gb275) (o := .cells #[.int .i64 t270, .int .i64 t271, .slice Ao71 y279.length co71] 24 (0, 0)) (by (with_reducible repeat (first | refine blk_drewN ?_ _ | refine blk_drew ?_ | refine blk_alloc ?_ _)); refine blk_put (cs := #[.int .i64 t270, .int .i64 t271, .slice Ao66 t272.length co66]) ?_ 2 _ rfl; (with_reducible repeat (first | refine blk_drewN ?_ _ | refine blk_drew ?_ | refine blk_alloc ?_ _)); exact BK275.out) hb); replace HB := zs4 hb HB GE263 GE264 GE265 GE275; clear hb; obtain ⟨hnb75, hnc75⟩ := zn2 NB265_264; obtain ⟨hcz76_0, hcz76_1, hcz76_2, hfz76_0, hfz76_1, hfz76_2⟩ := zc3 BK265.out))
        refine bodyPost_ret (results_ct rfl _ _ gb265 24 #[.int .i64 0, .int .i64 0, .slice none 0 0] (0, 0) _ rfl (by (with_reducible repeat (first | refine blk_drewN ?_ _ | refine blk_drew ?_ | refine blk_alloc ?_ _)); refine blk_put (cs := #[.int .i64 0, .int .i64 0, .slice none 0 0]) ?_ 2 _ rfl; (with_reducible repeat (first | refine blk_drewN ?_ _ | refine blk_drew ?_ | refine blk_alloc ?_ _)); refine blk_put (cs := #[.int .i64 0, .int .i64 0, .slice none 0 0]) ?_ 1 _ rfl; (with_reducible repeat (first | refine blk_drewN ?_ _ | refine blk_drew ?_ | refine blk_alloc ?_ _)); refine blk_put (cs := #[.int .i64 0, .int .i64 0, .slice none 0 0]) ?_ 0 _ rfl; (with_reducible repeat (first | refine blk_drewN ?_ _ | refine blk_drew ?_ | refine blk_alloc ?_ _)); exact BK265.out) Try.underlying24 rfl (by kernel_rfl)) rfl ?_
        exact ⟨_, by first | rfl | (simp [errW_none, errW_some] <;> rfl) | (simp only [← hji30]; first | rfl | (simp [errW_none, errW_some] <;> rfl)) | (simp [*, errW_none, errW_some] <;> rfl), by first | exact Kd.R_nil _ _ _ _ _ | exact Kd.N_nil _ _ _ _ _ | exact Kd.V_nil _ _ _ _ _ | exact Kd.Q_nil _ _ _ _ _ | exact Kd.S_nil _ _ _ _ _, zb4 HB.out GE263.out GE264.out GE265.out GE275.out⟩
      ·rw [if_neg c33] at H
       exact absurd H (by simp)
     ·rw [if_neg c32] at H
      exact absurd H (by simp)
    ·rw [if_neg c31] at H
     exact absurd H (by simp)

end Go.Proofs.Ytogifkjkbfdocaa.QFnExactReadJournal
