/- Written by the kit's print.py, called by our own print2.sh with one import more; not by print.sh. -/
import Derived.Test.YtklbkkoojkmjbaaQFnExactDoActsx0
import Derived.Test.YtklbkkoojkmjbaaQFnExactDoActsx9
import Derived.Test.YtklbkkoojkmjbaaQFnExactDoActsx10
import Derived.Test.YtklbkkoojkmjbaaQFnExactDoActsx11
namespace Go.Proofs.Ytklbkkoojkmjbaa.QFnExactDoActs
open Go.RowKit Go.Proofs.YtklbkkoojkmjbaaW.PrintWords Go.Proofs.YtklbkkoojkmjbaaW.PrintLast Go.Proofs.YtklbkkoojkmjbaaW.PrintMore
attribute [local go_sem] max2_int min2_int max_two min_two max_three min_three max_four min_four   -- for this text's walks alone
open Go.Proofs.Ytklbkkoojkmjbaa.Short
set_option linter.unusedVariables false
set_option linter.unusedSimpArgs false

/-! ### impl_DoAct: function 12 -/
mutual
def impl_DoAct.j0 : Nat → Int → Bool → List (S66) → Int → ByteArray → ByteArray → ByteArray → Option ((List (S66)) × Bool)
 | 0, _, _, _, _, _, _, _ => none
 | k + 1, x6, x29, x262000, x263000, x263001, x263002, x263003 => if x29 = true then (some (([] : List (S66)), false)) else (if x6 ≥ 0 then (if 0 ≤ x6 then (if x6 < (x262000.length : Int) then (impl_DoAct.j1 k x262000 x263000 x263001 x263002 x263003 ((rd_T66 x262000 x6).f0) ((rd_T66 x262000 x6).f1) ((rd_T66 x262000 x6).f2)) else (none)) else (none)) else (impl_DoAct.j1 k x262000 x263000 x263001 x263002 x263003 x263001 (⟨#[]⟩ : ByteArray) 0))
def impl_DoAct.j1 : Nat → List (S66) → Int → ByteArray → ByteArray → ByteArray → ByteArray → ByteArray → Int → Option ((List (S66)) × Bool)
 | 0, _, _, _, _, _, _, _, _ => none
 | k + 1, x262000, x263000, x263001, x263002, x263003, x268000, x268001, x268002 => if x263000 = 1 then (if x268001.size + x263002.size ≤ 9223372036854775807 then ((impl_withFile.f x262000 x268000 (x268001 ++ x263002) x268002).bind fun t270 => ((impl_DiskOk.f k t270).bind fun t273 => (if t273 = true then (some (t270, true)) else (some (([] : List (S66)), false))))) else (none)) else (if x263000 = 2 then ((impl_withFile.f x262000 x268000 x268001 (x268001.size : Int)).bind fun t274 => ((impl_DiskOk.f k t274).bind fun t277 => (if t277 = true then (some (t274, true)) else (some (([] : List (S66)), false))))) else (if x263000 = 3 then (if x268002 = (x268001.size : Int) then (impl_DoAct.j2 k (x263003.toList == x263001.toList) x262000 x263000 x263001 x263002 x263003 x268000 x268001 x268002) else (impl_DoAct.j2 k true x262000 x263000 x263001 x263002 x263003 x268000 x268001 x268002)) else ((impl_withoutFile.f x262000 x263001).bind fun t285 => ((impl_DiskOk.f k t285).bind fun t288 => (if t288 = true then (some (t285, true)) else (some (([] : List (S66)), false)))))))
def impl_DoAct.j2 : Nat → Bool → List (S66) → Int → ByteArray → ByteArray → ByteArray → ByteArray → ByteArray → Int → Option ((List (S66)) × Bool)
 | 0, _, _, _, _, _, _, _, _, _ => none
 | k + 1, x82, x262000, x263000, x263001, x263002, x263003, x268000, x268001, x268002 => if x82 = true then (some (([] : List (S66)), false)) else ((impl_withoutFile.f x262000 x263001).bind fun t278 => ((impl_withFile.f t278 x263003 x268001 x268002).bind fun t281 => ((impl_DiskOk.f k t281).bind fun t284 => (if t284 = true then (some (t281, true)) else (some (([] : List (S66)), false))))))
end
def impl_DoAct.f (k : Nat) (l0_0 : List (S66)) (a1_0 : Int) (a1_1 : ByteArray) (a1_2 : ByteArray) (a1_3 : ByteArray) : Option ((List (S66)) × Bool) := (impl_placeOf.f l0_0 a1_1).bind fun t264 => ((impl_DiskOk.f k l0_0).bind fun t265 => (if t265 = true then ((impl_actOk.f a1_0 a1_1 a1_2 a1_3).bind fun t266 => (if t266 = true then (if t264 < 0 then (impl_DoAct.j0 k t264 (a1_0 != 1) l0_0 a1_0 a1_1 a1_2 a1_3) else (impl_DoAct.j0 k t264 false l0_0 a1_0 a1_1 a1_2 a1_3)) else (impl_DoAct.j0 k t264 true l0_0 a1_0 a1_1 a1_2 a1_3))) else (impl_DoAct.j0 k t264 true l0_0 a1_0 a1_1 a1_2 a1_3)))
theorem impl_DoAct.mono_l : ∀ k, (∀ y0 y1 y2 y3 y4 y5 y6, LeO (impl_DoAct.j0 k y0 y1 y2 y3 y4 y5 y6) (impl_DoAct.j0 (k + 1) y0 y1 y2 y3 y4 y5 y6)) ∧ (∀ y0 y1 y2 y3 y4 y5 y6 y7, LeO (impl_DoAct.j1 k y0 y1 y2 y3 y4 y5 y6 y7) (impl_DoAct.j1 (k + 1) y0 y1 y2 y3 y4 y5 y6 y7)) ∧ (∀ y0 y1 y2 y3 y4 y5 y6 y7 y8, LeO (impl_DoAct.j2 k y0 y1 y2 y3 y4 y5 y6 y7 y8) (impl_DoAct.j2 (k + 1) y0 y1 y2 y3 y4 y5 y6 y7 y8))
 | 0 => ⟨fun _ _ _ _ _ _ _ r h => by simp [impl_DoAct.j0] at h, fun _ _ _ _ _ _ _ _ r h => by simp [impl_DoAct.j1] at h, fun _ _ _ _ _ _ _ _ _ r h => by simp [impl_DoAct.j2] at h⟩
 | k + 1 => by
  obtain ⟨ih0, ih1, ih2⟩ := impl_DoAct.mono_l k
  refine ⟨?_, ?_, ?_⟩
  ·intro y0 y1 y2 y3 y4 y5 y6
   unfold impl_DoAct.j0
   repeat' first
   | (with_reducible exact ih0 _ _ _ _ _ _ _)
   | (with_reducible exact ih1 _ _ _ _ _ _ _ _)
   | (with_reducible exact ih2 _ _ _ _ _ _ _ _ _)
   | (with_reducible exact impl_DiskOk.mono _ _)
   | (with_reducible exact LeO.refl _)
   | (with_reducible exact LeO.none _)
   | (with_reducible refine LeO.ite ?_ ?_)
   | (with_reducible refine LeO.bind ?_ (fun _ => ?_))
   | exact ih0 _ _ _ _ _ _ _
   | exact ih1 _ _ _ _ _ _ _ _
   | exact ih2 _ _ _ _ _ _ _ _ _
   | exact impl_DiskOk.mono _ _
   | exact LeO.none _
   | refine LeO.ite ?_ ?_
   | refine LeO.bind ?_ (fun _ => ?_)
  ·intro y0 y1 y2 y3 y4 y5 y6 y7
   unfold impl_DoAct.j1
   repeat' first
   | (with_reducible exact ih0 _ _ _ _ _ _ _)
   | (with_reducible exact ih1 _ _ _ _ _ _ _ _)
   | (with_reducible exact ih2 _ _ _ _ _ _ _ _ _)
   | (with_reducible exact impl_DiskOk.mono _ _)
   | (with_reducible exact LeO.refl _)
   | (with_reducible exact LeO.none _)
   | (with_reducible refine LeO.ite ?_ ?_)
   | (with_reducible refine LeO.bind ?_ (fun _ => ?_))
   | exact ih0 _ _ _ _ _ _ _
   | exact ih1 _ _ _ _ _ _ _ _
   | exact ih2 _ _ _ _ _ _ _ _ _
   | exact impl_DiskOk.mono _ _
   | exact LeO.none _
   | refine LeO.ite ?_ ?_
   | refine LeO.bind ?_ (fun _ => ?_)
  ·intro y0 y1 y2 y3 y4 y5 y6 y7 y8
   unfold impl_DoAct.j2
   repeat' first
   | (with_reducible exact ih0 _ _ _ _ _ _ _)
   | (with_reducible exact ih1 _ _ _ _ _ _ _ _)
   | (with_reducible exact ih2 _ _ _ _ _ _ _ _ _)
   | (with_reducible exact impl_DiskOk.mono _ _)
   | (with_reducible exact LeO.refl _)
   | (with_reducible exact LeO.none _)
   | (with_reducible refine LeO.ite ?_ ?_)
   | (with_reducible refine LeO.bind ?_ (fun _ => ?_))
   | exact ih0 _ _ _ _ _ _ _
   | exact ih1 _ _ _ _ _ _ _ _
   | exact ih2 _ _ _ _ _ _ _ _ _
   | exact impl_DiskOk.mono _ _
   | exact LeO.none _
   | refine LeO.ite ?_ ?_
   | refine LeO.bind ?_ (fun _ => ?_)
theorem impl_DoAct.mono : ∀ a0 a1 a2 a3 a4 k, LeO (impl_DoAct.f k a0 a1 a2 a3 a4) (impl_DoAct.f (k + 1) a0 a1 a2 a3 a4) := by
 intro a0 a1 a2 a3 a4 k
 obtain ⟨ih0, ih1, ih2⟩ := impl_DoAct.mono_l k
 unfold impl_DoAct.f
 repeat' first
   | (with_reducible exact ih0 _ _ _ _ _ _ _)
   | (with_reducible exact ih1 _ _ _ _ _ _ _ _)
   | (with_reducible exact ih2 _ _ _ _ _ _ _ _ _)
   | (with_reducible exact impl_DiskOk.mono _ _)
   | (with_reducible exact LeO.refl _)
   | (with_reducible exact LeO.none _)
   | (with_reducible refine LeO.ite ?_ ?_)
   | (with_reducible refine LeO.bind ?_ (fun _ => ?_))
   | exact ih0 _ _ _ _ _ _ _
   | exact ih1 _ _ _ _ _ _ _ _
   | exact ih2 _ _ _ _ _ _ _ _ _
   | exact impl_DiskOk.mono _ _
   | exact LeO.none _
   | refine LeO.ite ?_ ?_
   | refine LeO.bind ?_ (fun _ => ?_)
set_option maxHeartbeats 8000000 in
set_option maxRecDepth 100000 in
theorem impl_DoAct.calls (k : Nat) (A0_0 : Option Addr) (c0_0 : Nat) (l0_0 : List (S66)) (a1_0 : Int) (a1_1 : ByteArray) (a1_2 : ByteArray) (a1_3 : ByteArray) (r1 : List (S66)) (r2 : Bool) (w : World) (hr0_0 : Kd.C k66 w A0_0 l0_0.length l0_0) (hc0_0 : l0_0.length ≤ c0_0) (h : impl_DoAct.f k l0_0 a1_0 a1_1 a1_2 a1_3 = some (r1, r2)) :
  Calls Try.prog 12 #[.agg #[.slice A0_0 l0_0.length c0_0], .agg #[.int .i64 a1_0, .string a1_1, .string a1_2, .string a1_3]] w fun e w' => ∃ v0_ : Value, e = .returned (.tuple #[.agg #[v0_], .bool r2]) ∧ Kd.R k66 66 w' w.heap.size (fun _ => True) v0_ r1 ∧ Below w.heap.size w w' := by
 have hu31 := Try.underlying31
 have hu35 := Try.underlying35
 have hu66 := Try.underlying66
 have HR0_0 := Aside0.mk hr0_0
 have HC0_0 := Aside0.mk hc0_0
 clear hr0_0 hc0_0
 have HB := Aside0.mk (Below.refl w.heap.size w)
 have H : ((impl_placeOf.f l0_0 a1_1).bind fun t264 => ((impl_DiskOk.f k l0_0).bind fun t265 => (if t265 = true then ((impl_actOk.f a1_0 a1_1 a1_2 a1_3).bind fun t266 => (if t266 = true then (if t264 < 0 then (impl_DoAct.j0 k t264 (a1_0 != 1) l0_0 a1_0 a1_1 a1_2 a1_3) else (impl_DoAct.j0 k t264 false l0_0 a1_0 a1_1 a1_2 a1_3)) else (impl_DoAct.j0 k t264 true l0_0 a1_0 a1_1 a1_2 a1_3))) else (impl_DoAct.j0 k t264 true l0_0 a1_0 a1_1 a1_2 a1_3)))) = some (r1, r2) := h
 clear h
 replace H := Option.bind_eq_some_iff.mp H
 obtain ⟨t264, A30, H⟩ := H
 try dsimp only at H
 have A3 := Aside0.mk A30
 clear A30
 have HC4 := Aside0.mk H
 clear H
 go_enter Try.func12, Try.ntmps12
 go_upto_region 2 with (first | ((with_reducible refine gate_dst (N := 2) rfl ?_); refine box_event ?hg (N := 2) ?hd (cs := #[.slice A0_0 l0_0.length c0_0]) (t := 31) ?hr ?_; (case hd => rfl); (case hg => rfl); (case hr => first | (go_simp; done) | (go_simp; rfl)); intro gb261 hg w5 hbox hb; have BK261 := am (hbox); have GW261 := zge hg (zb0 HB.out); have GE261 := zge hg (zb0 HB.out); replace HB := am (below_step (zb0 HB.out) hb); clear hb hbox hg) | ((with_reducible refine gate_dst (N := 3) rfl ?_); refine box_event ?hg (N := 3) ?hd (cs := #[.int .i64 a1_0, .string a1_1, .string a1_2, .string a1_3]) (t := 35) ?hr ?_; (case hd => rfl); (case hg => rfl); (case hr => first | (go_simp; done) | (go_simp; rfl)); intro gb262 hg w6 hbox hb; have BK262 := am (hbox); have GW262 := zge hg (zb1 HB.out GE261.out); have GE262 := zge hg (zb1 HB.out GE261.out); have NB261_262 := znl hg (kx BK261.out); have NB262_261 := zng hg (kx BK261.out); replace BK261 := am (bb hb (kx BK261.out)); replace HB := am (below_step (zb1 HB.out GE261.out) hb); clear hb hbox hg) | ((with_reducible refine gate_dst (N := 4) rfl ?_); refine box_event ?hg (N := 4) ?hd (cs := #[.slice none 0 0]) (t := 31) ?hr ?_; (case hd => rfl); (case hg => rfl); (case hr => first | (go_simp; done) | (go_simp; rfl)); intro gb263 hg w7 hbox hb; have BK263 := am (hbox); have GW263 := zge hg (zb2 HB.out GE261.out GE262.out); have GE263 := zge hg (zb2 HB.out GE261.out GE262.out); have NB261_263 := znl hg (kx BK261.out); have NB263_261 := zng hg (kx BK261.out); have NB262_263 := znl hg (kx BK262.out); have NB263_262 := zng hg (kx BK262.out); replace BK261 := am (bb hb (kx BK261.out)); replace BK262 := am (bb hb (kx BK262.out)); replace HB := am (below_step (zb2 HB.out GE261.out GE262.out) hb); clear hb hbox hg; have hnb8 := NB261_262.out; have hnc8 := NB262_261.out; have hnb9 := NB261_263.out; have hnc9 := NB263_261.out; obtain ⟨hcz10_0, hfz10_0⟩ := zc1 BK261.out; have hnb11 := NB262_263.out; have hnc11 := NB263_262.out; obtain ⟨hcz12_0, hcz12_1, hcz12_2, hcz12_3, hfz12_0, hfz12_1, hfz12_2, hfz12_3⟩ := zc4 BK262.out) | ((with_reducible refine gate_callee (f := 38) rfl ?_); refine goesL_ (some 12) rfl rfl Try.func38 (by kernel_rfl) rfl #[.agg #[.slice A0_0 l0_0.length c0_0], .string a1_1] rfl zr ?_; (with_reducible refine (impl_placeOf.calls _ _ l0_0 a1_1 t264 _ ?side1 ?side2 A3.out).mono ?_); (case side1 => repeat (first | exact (Kd.C_below HR0_0.out HB.out) | (with_reducible refine Kd.C_alloc ?_ _) | (with_reducible refine Kd.C_drewN ?_ _) | (with_reducible refine Kd.C_drew ?_))); (case side2 => exact HC0_0.out); rintro e w13 ⟨rfl, hb⟩; refine ⟨_, rfl, ?_⟩; replace BK261 := am (bb hb (kx BK261.out)); replace BK262 := am (bb hb (kx BK262.out)); replace BK263 := am (bb hb (kx BK263.out)); replace HB := am (below_step (zb3 HB.out GE261.out GE262.out GE263.out) hb); (try clear hb); (try clear hb2); (try clear hk); (try clear hi)))
 (try simp only [Act.put, List.setIfInBounds_toArray, List.set_cons_zero, List.set_cons_succ])
 go_cut [29] (fun v29 wc => ∃ (kq : Nat) (x29_3 : Bool), v29 = .bool x29_3 ∧ Aside0 (impl_DoAct.j0 kq t264 x29_3 l0_0 a1_0 a1_1 a1_2 a1_3 = some (r1, r2)) ∧ Aside0 (kq ≤ k) ∧ Aside0 (wc.heap[gb261]? = some (.cells #[(.slice A0_0 l0_0.length c0_0)] 31 (0, 0))) ∧ Aside0 (wc.heap[gb262]? = some (.cells #[.int .i64 a1_0, .string a1_1, .string a1_2, .string a1_3] 35 (0, 0))) ∧ Aside0 (wc.heap[gb263]? = some (.cells #[(.slice none 0 0)] 31 (0, 0))) ∧ Aside0 (Below w.heap.size w wc))
 case first =>
  have H := HC4.out
  clear HC4
  replace H := Option.bind_eq_some_iff.mp H
  obtain ⟨t265, A140, H⟩ := H
  try dsimp only at H
  have A14 := Aside0.mk A140
  clear A140
  by_cases c15 : t265 = true
  ·subst c15
   have H1 : ((impl_actOk.f a1_0 a1_1 a1_2 a1_3).bind fun t266 => (if t266 = true then (if t264 < 0 then (impl_DoAct.j0 k t264 (a1_0 != 1) l0_0 a1_0 a1_1 a1_2 a1_3) else (impl_DoAct.j0 k t264 false l0_0 a1_0 a1_1 a1_2 a1_3)) else (impl_DoAct.j0 k t264 true l0_0 a1_0 a1_1 a1_2 a1_3))) = some (r1, r2) := by rw [if_pos rfl] at H; exact H
   clear H
   have H := H1
   clear H1
   replace H := Option.bind_eq_some_iff.mp H
   obtain ⟨t266, A160, H⟩ := H
   try dsimp only at H
   have A16 := Aside0.mk A160
   clear A160
   by_cases c17 : t266 = true
   ·subst c17
    have H1 : (if t264 < 0 then (impl_DoAct.j0 k t264 (a1_0 != 1) l0_0 a1_0 a1_1 a1_2 a1_3) else (impl_DoAct.j0 k t264 false l0_0 a1_0 a1_1 a1_2 a1_3)) = some (r1, r2) := by rw [if_pos rfl] at H; exact H
    clear H
    have H := H1
    clear H1
    by_cases c18 : t264 < 0
    ·rw [if_pos c18] at H
     have c18b0 : decide (t264 < 0) = true := decide_eq_true c18
     clear c18
     (first | rw [c18b0] | (simp only [i64_w, i32_w]; rw [c18b0]) | skip)
     have H' := Aside0.mk H
     clear H
     have hnb19 := NB261_262.out
     have hnc19 := NB262_261.out
     have hnb20 := NB261_263.out
     have hnc20 := NB263_261.out
     obtain ⟨hcz21_0, hfz21_0⟩ := zc1 BK261.out
     go_wp2_with (first | ((with_reducible refine gate_callee (f := 39) rfl ?_); refine goesL_ (some 14) rfl rfl Try.func39 (by kernel_rfl) rfl #[.agg #[.slice A0_0 l0_0.length c0_0]] rfl zr ?_; (with_reducible refine (impl_DiskOk.calls k _ _ l0_0 true _ ?side1 ?side2 A14.out).mono ?_); (case side1 => repeat (first | exact (Kd.C_below HR0_0.out HB.out) | (with_reducible refine Kd.C_alloc ?_ _) | (with_reducible refine Kd.C_drewN ?_ _) | (with_reducible refine Kd.C_drew ?_))); (case side2 => exact HC0_0.out); rintro e w22 ⟨rfl, hb⟩; refine ⟨_, rfl, ?_⟩; replace BK261 := am (bb hb (kx BK261.out)); replace BK262 := am (bb hb (kx BK262.out)); replace BK263 := am (bb hb (kx BK263.out)); replace HB := am (below_step (zb3 HB.out GE261.out GE262.out GE263.out) hb); (try clear hb); (try clear hb2); (try clear hk); (try clear hi); have hnb23 := NB262_263.out; have hnc23 := NB263_262.out; obtain ⟨hcz24_0, hcz24_1, hcz24_2, hcz24_3, hfz24_0, hfz24_1, hfz24_2, hfz24_3⟩ := zc4 BK262.out) | (go_at_call 40; (with_reducible refine (impl_actOk.calls a1_0 a1_1 a1_2 a1_3 true _ A16.out).mono ?_); rintro e w25 ⟨rfl, hb⟩; replace BK261 := am (bb hb (kx BK261.out)); replace BK262 := am (bb hb (kx BK262.out)); replace BK263 := am (bb hb (kx BK263.out)); replace HB := am (below_step (zb3 HB.out GE261.out GE262.out GE263.out) hb); (try clear hb); (try clear hb2); (try clear hk); (try clear hi); obtain ⟨hcz26_0, hcz26_1, hcz26_2, hcz26_3, hfz26_0, hfz26_1, hfz26_2, hfz26_3⟩ := zc4 BK262.out))
     go_meet
     case rel => exact ⟨_, ((a1_0 != 1)), (by first | rfl | (simp; done) | (simp [*]; done)), H', ⟨by first | omega | exact Nat.le_refl _⟩, ⟨kx BK261.out⟩, ⟨kx BK262.out⟩, ⟨kx BK263.out⟩, ⟨zb3 HB.out GE261.out GE262.out GE263.out⟩⟩
    ·rw [if_neg c18] at H
     have c18b0 : decide (t264 < 0) = false := decide_eq_false c18
     clear c18
     (first | rw [c18b0] | (simp only [i64_w, i32_w]; rw [c18b0]) | skip)
     have H' := Aside0.mk H
     clear H
     have hnb27 := NB261_262.out
     have hnc27 := NB262_261.out
     have hnb28 := NB261_263.out
     have hnc28 := NB263_261.out
     obtain ⟨hcz29_0, hfz29_0⟩ := zc1 BK261.out
     go_wp2_with (first | ((with_reducible refine gate_callee (f := 39) rfl ?_); refine goesL_ (some 14) rfl rfl Try.func39 (by kernel_rfl) rfl #[.agg #[.slice A0_0 l0_0.length c0_0]] rfl zr ?_; (with_reducible refine (impl_DiskOk.calls k _ _ l0_0 true _ ?side1 ?side2 A14.out).mono ?_); (case side1 => repeat (first | exact (Kd.C_below HR0_0.out HB.out) | (with_reducible refine Kd.C_alloc ?_ _) | (with_reducible refine Kd.C_drewN ?_ _) | (with_reducible refine Kd.C_drew ?_))); (case side2 => exact HC0_0.out); rintro e w30 ⟨rfl, hb⟩; refine ⟨_, rfl, ?_⟩; replace BK261 := am (bb hb (kx BK261.out)); replace BK262 := am (bb hb (kx BK262.out)); replace BK263 := am (bb hb (kx BK263.out)); replace HB := am (below_step (zb3 HB.out GE261.out GE262.out GE263.out) hb); (try clear hb); (try clear hb2); (try clear hk); (try clear hi); have hnb31 := NB262_263.out; have hnc31 := NB263_262.out; obtain ⟨hcz32_0, hcz32_1, hcz32_2, hcz32_3, hfz32_0, hfz32_1, hfz32_2, hfz32_3⟩ := zc4 BK262.out) | (go_at_call 40; (with_reducible refine (impl_actOk.calls a1_0 a1_1 a1_2 a1_3 true _ A16.out).mono ?_); rintro e w33 ⟨rfl, hb⟩; replace BK261 := am (bb hb (kx BK261.out)); replace BK262 := am (bb hb (kx BK262.out)); replace BK263 := am (bb hb (kx BK263.out)); replace HB := am (below_step (zb3 HB.out GE261.out GE262.out GE263.out) hb); (try clear hb); (try clear hb2); (try clear hk); (try clear hi)))
     go_meet
     case rel => exact ⟨_, (false), (by first | rfl | (simp; done) | (simp [*]; done)), H', ⟨by first | omega | exact Nat.le_refl _⟩, ⟨kx BK261.out⟩, ⟨kx BK262.out⟩, ⟨kx BK263.out⟩, ⟨zb3 HB.out GE261.out GE262.out GE263.out⟩⟩
   ·replace c17 := Bool.eq_false_iff.mpr c17
    subst c17
    have H1 : (impl_DoAct.j0 k t264 true l0_0 a1_0 a1_1 a1_2 a1_3) = some (r1, r2) := by rw [if_neg (show ¬ (false = true) by decide)] at H; exact H
    clear H
    have H := H1
    clear H1
    have H' := Aside0.mk H
    clear H
    have hnb34 := NB261_262.out
    have hnc34 := NB262_261.out
    have hnb35 := NB261_263.out
    have hnc35 := NB263_261.out
    obtain ⟨hcz36_0, hfz36_0⟩ := zc1 BK261.out
    go_wp2_with (first | ((with_reducible refine gate_callee (f := 39) rfl ?_); refine goesL_ (some 14) rfl rfl Try.func39 (by kernel_rfl) rfl #[.agg #[.slice A0_0 l0_0.length c0_0]] rfl zr ?_; (with_reducible refine (impl_DiskOk.calls k _ _ l0_0 true _ ?side1 ?side2 A14.out).mono ?_); (case side1 => repeat (first | exact (Kd.C_below HR0_0.out HB.out) | (with_reducible refine Kd.C_alloc ?_ _) | (with_reducible refine Kd.C_drewN ?_ _) | (with_reducible refine Kd.C_drew ?_))); (case side2 => exact HC0_0.out); rintro e w37 ⟨rfl, hb⟩; refine ⟨_, rfl, ?_⟩; replace BK261 := am (bb hb (kx BK261.out)); replace BK262 := am (bb hb (kx BK262.out)); replace BK263 := am (bb hb (kx BK263.out)); replace HB := am (below_step (zb3 HB.out GE261.out GE262.out GE263.out) hb); (try clear hb); (try clear hb2); (try clear hk); (try clear hi); have hnb38 := NB262_263.out; have hnc38 := NB263_262.out; obtain ⟨hcz39_0, hcz39_1, hcz39_2, hcz39_3, hfz39_0, hfz39_1, hfz39_2, hfz39_3⟩ := zc4 BK262.out) | (go_at_call 40; (with_reducible refine (impl_actOk.calls a1_0 a1_1 a1_2 a1_3 false _ A16.out).mono ?_); rintro e w40 ⟨rfl, hb⟩; replace BK261 := am (bb hb (kx BK261.out)); replace BK262 := am (bb hb (kx BK262.out)); replace BK263 := am (bb hb (kx BK263.out)); replace HB := am (below_step (zb3 HB.out GE261.out GE262.out GE263.out) hb); (try clear hb); (try clear hb2); (try clear hk); (try clear hi)))
    go_meet
    case rel => exact ⟨_, (true), (by first | rfl | (simp; done) | (simp [*]; done)), H', ⟨by first | omega | exact Nat.le_refl _⟩, ⟨kx BK261.out⟩, ⟨kx BK262.out⟩, ⟨kx BK263.out⟩, ⟨zb3 HB.out GE261.out GE262.out GE263.out⟩⟩
  ·replace c15 := Bool.eq_false_iff.mpr c15
   subst c15
   have H1 : (impl_DoAct.j0 k t264 true l0_0 a1_0 a1_1 a1_2 a1_3) = some (r1, r2) := by rw [if_neg (show ¬ (false = true) by decide)] at H; exact H
   clear H
   have H := H1
   clear H1
   have H' := Aside0.mk H
   clear H
   have hnb41 := NB261_262.out
   have hnc41 := NB262_261.out
   have hnb42 := NB261_263.out
   have hnc42 := NB263_261.out
   obtain ⟨hcz43_0, hfz43_0⟩ := zc1 BK261.out
   go_wp2_with (first | ((with_reducible refine gate_callee (f := 39) rfl ?_); refine goesL_ (some 14) rfl rfl Try.func39 (by kernel_rfl) rfl #[.agg #[.slice A0_0 l0_0.length c0_0]] rfl zr ?_; (with_reducible refine (impl_DiskOk.calls k _ _ l0_0 false _ ?side1 ?side2 A14.out).mono ?_); (case side1 => repeat (first | exact (Kd.C_below HR0_0.out HB.out) | (with_reducible refine Kd.C_alloc ?_ _) | (with_reducible refine Kd.C_drewN ?_ _) | (with_reducible refine Kd.C_drew ?_))); (case side2 => exact HC0_0.out); rintro e w44 ⟨rfl, hb⟩; refine ⟨_, rfl, ?_⟩; replace BK261 := am (bb hb (kx BK261.out)); replace BK262 := am (bb hb (kx BK262.out)); replace BK263 := am (bb hb (kx BK263.out)); replace HB := am (below_step (zb3 HB.out GE261.out GE262.out GE263.out) hb); (try clear hb); (try clear hb2); (try clear hk); (try clear hi)))
   go_meet
   case rel => exact ⟨_, (true), (by first | rfl | (simp; done) | (simp [*]; done)), H', ⟨by first | omega | exact Nat.le_refl _⟩, ⟨kx BK261.out⟩, ⟨kx BK262.out⟩, ⟨kx BK263.out⟩, ⟨zb3 HB.out GE261.out GE262.out GE263.out⟩⟩
 case rest =>
  clear HC4
  try clear c1
  try clear c2
  try clear p2
  try clear c3
  try clear c4
  try clear c8
  try clear c9
  try clear c11
  try clear c12
  try clear c15
  try clear c17
  try clear c18
  try clear c18b0
  try clear c19
  try clear c20
  try clear c23
  try clear c27
  try clear c28
  try clear c31
  try clear c34
  try clear c35
  try clear c38
  try clear c39
  try clear c41
  try clear c42
  try clear hcz10_0
  try clear hcz12_0
  try clear hcz12_1
  try clear hcz12_2
  try clear hcz12_3
  try clear hcz21_0
  try clear hcz24_0
  try clear hcz24_1
  try clear hcz24_2
  try clear hcz24_3
  try clear hcz26_0
  try clear hcz26_1
  try clear hcz26_2
  try clear hcz26_3
  try clear hcz29_0
  try clear hcz32_0
  try clear hcz32_1
  try clear hcz32_2
  try clear hcz32_3
  try clear hcz36_0
  try clear hcz39_0
  try clear hcz39_1
  try clear hcz39_2
  try clear hcz39_3
  try clear hcz43_0
  try clear hfz10_0
  try clear hfz12_0
  try clear hfz12_1
  try clear hfz12_2
  try clear hfz12_3
  try clear hfz21_0
  try clear hfz24_0
  try clear hfz24_1
  try clear hfz24_2
  try clear hfz24_3
  try clear hfz26_0
  try clear hfz26_1
  try clear hfz26_2
  try clear hfz26_3
  try clear hfz29_0
  try clear hfz32_0
  try clear hfz32_1
  try clear hfz32_2
  try clear hfz32_3
  try clear hfz36_0
  try clear hfz39_0
  try clear hfz39_1
  try clear hfz39_2
  try clear hfz39_3
  try clear hfz43_0
  obtain ⟨kq, x29_3, rfl, HA, HJ3, BK261, BK262, BK263, HB⟩ := hcut
  cases kq with
  | zero => exact absurd HA.out (by simp [impl_DoAct.j0])
  | succ kj3 =>
   have H := HA.out
   clear HA
   simp only [impl_DoAct.j0] at H
   by_cases c45 : x29_3 = true
   ·subst c45
    have H1 : (some (([] : List (S66)), false)) = some (r1, r2) := by rw [if_pos rfl] at H; exact H
    clear H
    have H := H1
    clear H1
    simp only [Option.some.injEq, Prod.mk.injEq] at H
    obtain ⟨rfl, rfl⟩ := H
    have hnb46 := NB263_261.out
    have hnc46 := NB261_263.out
    have hnb47 := NB263_262.out
    have hnc47 := NB262_263.out
    obtain ⟨hcz48_0, hfz48_0⟩ := zc1 BK263.out
    go_wp2
    refine bodyPost_ret (results_ct rfl _ _ gb263 31 #[.slice none 0 0] (0, 0) _ rfl (by (with_reducible repeat (first | refine blk_drewN ?_ _ | refine blk_drew ?_ | refine blk_alloc ?_ _)); refine blk_put (cs := #[.slice none 0 0]) ?_ 0 _ rfl; (with_reducible repeat (first | refine blk_drewN ?_ _ | refine blk_drew ?_ | refine blk_alloc ?_ _)); exact BK263.out) Try.underlying31 rfl (by kernel_rfl)) rfl ?_
    exact ⟨_, by first | rfl | (simp [errW_none, errW_some] <;> rfl) | (simp [*, errW_none, errW_some] <;> rfl), by first | exact Kd.R_nil _ _ _ _ _ | exact Kd.N_nil _ _ _ _ _ | exact Kd.V_nil _ _ _ _ _ | exact Kd.Q_nil _ _ _ _ _ | exact Kd.S_nil _ _ _ _ _, zb3 HB.out GE261.out GE262.out GE263.out⟩
   ·replace c45 := Bool.eq_false_iff.mpr c45
    subst c45
    have H1 : (if t264 ≥ 0 then (if 0 ≤ t264 then (if t264 < (l0_0.length : Int) then (impl_DoAct.j1 kj3 l0_0 a1_0 a1_1 a1_2 a1_3 ((rd_T66 l0_0 t264).f0) ((rd_T66 l0_0 t264).f1) ((rd_T66 l0_0 t264).f2)) else (none)) else (none)) else (impl_DoAct.j1 kj3 l0_0 a1_0 a1_1 a1_2 a1_3 a1_1 (⟨#[]⟩ : ByteArray) 0)) = some (r1, r2) := by rw [if_neg (show ¬ (false = true) by decide)] at H; exact H
    clear H
    have H := H1
    clear H1
    have HC49 := Aside0.mk H
    clear H
    have hnb50 := NB262_261.out
    have hnc50 := NB261_262.out
    have hnb51 := NB262_263.out
    have hnc51 := NB263_262.out
    obtain ⟨hcz52_0, hcz52_1, hcz52_2, hcz52_3, hfz52_0, hfz52_1, hfz52_2, hfz52_3⟩ := zc4 BK262.out
    go_upto_if 35 with (first | ((with_reducible refine gate_dst (N := 7) rfl ?_); refine box_event ?hg (N := 7) ?hd (cs := #[.string (⟨#[]⟩ : ByteArray), .string (⟨#[]⟩ : ByteArray), .int .i64 0]) (t := 66) ?hr ?_; (case hd => rfl); (case hg => rfl); (case hr => first | (go_simp; done) | (go_simp; rfl)); intro gb267 hg w53 hbox hb; have BK267 := am (hbox); have GW267 := zge hg (zb3 HB.out GE261.out GE262.out GE263.out); have GE267 := zge hg (zb3 HB.out GE261.out GE262.out GE263.out); have NB261_267 := znl hg (kx BK261.out); have NB267_261 := zng hg (kx BK261.out); have NB262_267 := znl hg (kx BK262.out); have NB267_262 := zng hg (kx BK262.out); have NB263_267 := znl hg (kx BK263.out); have NB267_263 := zng hg (kx BK263.out); replace BK261 := am (bb hb (kx BK261.out)); replace BK262 := am (bb hb (kx BK262.out)); replace BK263 := am (bb hb (kx BK263.out)); replace HB := am (below_step (zb3 HB.out GE261.out GE262.out GE263.out) hb); clear hb hbox hg; have hnb54 := NB267_261.out; have hnc54 := NB261_267.out; have hnb55 := NB267_262.out; have hnc55 := NB262_267.out; have hnb56 := NB267_263.out; have hnc56 := NB263_267.out; obtain ⟨hcz57_0, hcz57_1, hcz57_2, hfz57_0, hfz57_1, hfz57_2⟩ := zc3 BK267.out))
    (try simp only [Act.put, List.setIfInBounds_toArray, List.set_cons_zero, List.set_cons_succ])
    go_cut [] (fun wc => ∃ (kq : Nat) (x268000_48 : ByteArray) (x268001_48 : ByteArray) (x268002_48 : Int), Aside0 (impl_DoAct.j1 kq l0_0 a1_0 a1_1 a1_2 a1_3 x268000_48 x268001_48 x268002_48 = some (r1, r2)) ∧ Aside0 (kq ≤ kj3) ∧ Aside0 (wc.heap[gb261]? = some (.cells #[(.slice A0_0 l0_0.length c0_0)] 31 (0, 0))) ∧ Aside0 (wc.heap[gb262]? = some (.cells #[.int .i64 a1_0, .string a1_1, .string a1_2, .string a1_3] 35 (0, 0))) ∧ Aside0 (wc.heap[gb263]? = some (.cells #[(.slice none 0 0)] 31 (0, 0))) ∧ Aside0 (wc.heap[gb267]? = some (.cells #[.string x268000_48, .string x268001_48, .int .i64 x268002_48] 66 (0, 0))) ∧ Aside0 (Below w.heap.size w wc))
    case first =>
     have H := HC49.out
     clear HC49
     by_cases c58 : t264 ≥ 0
     ·rw [if_pos c58] at H
      have c58b0 : decide (0 ≤ t264) = true := decide_eq_true c58
      clear c58
      (first | rw [c58b0] | (simp only [i64_w, i32_w]; rw [c58b0]) | skip)
      by_cases c59 : 0 ≤ t264
      ·rw [if_pos c59] at H
       have c59b0 : decide (0 ≤ t264) = true := decide_eq_true c59
       clear c59
       by_cases c60 : t264 < (l0_0.length : Int)
       ·rw [if_pos c60] at H
        have c60b0 : decide (t264 < (l0_0.length : Int)) = true := decide_eq_true c60
        have c60b1 : decide ((l0_0.length : Int) ≤ t264) = false := decide_eq_false (by omega)
        clear c60
        have H' := Aside0.mk H
        clear H
        have hnb61 := NB261_262.out
        have hnc61 := NB262_261.out
        have hnb62 := NB261_263.out
        have hnc62 := NB263_261.out
        have hnb63 := NB261_267.out
        have hnc63 := NB267_261.out
        obtain ⟨hcz64_0, hfz64_0⟩ := zc1 BK261.out
        have p268 : 0 ≤ (t264 : Int) := of_decide_eq_true (by first | (with_reducible assumption) | assumption)
        have q268 : t264 < (l0_0.length : Int) := of_decide_eq_true (by first | (with_reducible assumption) | assumption)
        obtain ⟨ad268, e268, hx268_0, hx268_1, hx268_2⟩ := at_T66 HR0_0.out t264 p268 q268
        cases e268
        have hn268_0 : ad268.block ≠ gb267 := Nat.ne_of_lt (Nat.lt_of_lt_of_le (by have := World.block_lt_of_cell? _ _ hx268_0; first | rwa [add_block] at this | exact this) GW267.out)
        have hn268_1 : ad268.block ≠ gb267 := Nat.ne_of_lt (Nat.lt_of_lt_of_le (by have := World.block_lt_of_cell? _ _ hx268_0; first | rwa [add_block] at this | exact this) GW267.out)
        have hn268_2 : ad268.block ≠ gb267 := Nat.ne_of_lt (Nat.lt_of_lt_of_le (by have := World.block_lt_of_cell? _ _ hx268_0; first | rwa [add_block] at this | exact this) GW267.out)
        replace hx268_0 := (HB.out.cell (World.block_lt_of_cell? w _ hx268_0)).trans hx268_0
        replace hx268_1 := (HB.out.cell (World.block_lt_of_cell? w _ hx268_1)).trans hx268_1
        replace hx268_2 := (HB.out.cell (World.block_lt_of_cell? w _ hx268_2)).trans hx268_2
        replace hx268_0 := (cell_far (p := ⟨gb267, 0, none⟩) (by first | (rw [add_block]; exact hn268_0) | (show (Addr.add _ _).block ≠ _; rw [add_block]; exact hn268_0) | exact hn268_0) (.string a1_1)).trans hx268_0
        replace hx268_1 := (cell_far (p := ⟨gb267, 0, none⟩) (by first | (rw [add_block]; exact hn268_0) | (show (Addr.add _ _).block ≠ _; rw [add_block]; exact hn268_0) | exact hn268_0) (.string a1_1)).trans hx268_1
        replace hx268_2 := (cell_far (p := ⟨gb267, 0, none⟩) (by first | (rw [add_block]; exact hn268_0) | (show (Addr.add _ _).block ≠ _; rw [add_block]; exact hn268_0) | exact hn268_0) (.string a1_1)).trans hx268_2
        replace hx268_0 := (cell_far (p := ⟨gb267, 1, none⟩) (by first | (rw [add_block]; exact hn268_1) | (show (Addr.add _ _).block ≠ _; rw [add_block]; exact hn268_1) | exact hn268_1) (.string (⟨#[]⟩ : ByteArray))).trans hx268_0
        replace hx268_1 := (cell_far (p := ⟨gb267, 1, none⟩) (by first | (rw [add_block]; exact hn268_1) | (show (Addr.add _ _).block ≠ _; rw [add_block]; exact hn268_1) | exact hn268_1) (.string (⟨#[]⟩ : ByteArray))).trans hx268_1
        replace hx268_2 := (cell_far (p := ⟨gb267, 1, none⟩) (by first | (rw [add_block]; exact hn268_1) | (show (Addr.add _ _).block ≠ _; rw [add_block]; exact hn268_1) | exact hn268_1) (.string (⟨#[]⟩ : ByteArray))).trans hx268_2
        replace hx268_0 := (cell_far (p := ⟨gb267, 2, none⟩) (by first | (rw [add_block]; exact hn268_2) | (show (Addr.add _ _).block ≠ _; rw [add_block]; exact hn268_2) | exact hn268_2) (.int .i64 0)).trans hx268_0
        replace hx268_1 := (cell_far (p := ⟨gb267, 2, none⟩) (by first | (rw [add_block]; exact hn268_2) | (show (Addr.add _ _).block ≠ _; rw [add_block]; exact hn268_2) | exact hn268_2) (.int .i64 0)).trans hx268_1
        replace hx268_2 := (cell_far (p := ⟨gb267, 2, none⟩) (by first | (rw [add_block]; exact hn268_2) | (show (Addr.add _ _).block ≠ _; rw [add_block]; exact hn268_2) | exact hn268_2) (.int .i64 0)).trans hx268_2
        clear hn268_0 hn268_1 hn268_2
        replace p268 := eq_true p268
        replace q268 := eq_true q268
        have hnb65 := NB267_262.out
        have hnc65 := NB262_267.out
        have hnb66 := NB267_263.out
        have hnc66 := NB263_267.out
        obtain ⟨hcz67_0, hcz67_1, hcz67_2, hfz67_0, hfz67_1, hfz67_2⟩ := zc3 BK267.out
        go_wp2
        go_meet
        case rel => exact ⟨_, ((rd_T66 l0_0 t264).f0), ((rd_T66 l0_0 t264).f1), ((rd_T66 l0_0 t264).f2), H', ⟨by have := HJ3.out; first | omega | exact Nat.le_refl _⟩, ⟨zf1 BK261.out NB261_267.out⟩, ⟨zf1 BK262.out NB262_267.out⟩, ⟨zf1 BK263.out NB263_267.out⟩, ⟨by (with_reducible repeat (first | refine blk_drewN ?_ _ | refine blk_drew ?_ | refine blk_alloc ?_ _)); refine blk_put (cs := #[.string ((rd_T66 l0_0 t264).f0), .string ((rd_T66 l0_0 t264).f1), .int .i64 0]) ?_ 2 _ rfl; (with_reducible repeat (first | refine blk_drewN ?_ _ | refine blk_drew ?_ | refine blk_alloc ?_ _)); refine blk_put (cs := #[.string ((rd_T66 l0_0 t264).f0), .string (⟨#[]⟩ : ByteArray), .int .i64 0]) ?_ 1 _ rfl; (with_reducible repeat (first | refine blk_drewN ?_ _ | refine blk_drew ?_ | refine blk_alloc ?_ _)); refine blk_put (cs := #[.string a1_1, .string (⟨#[]⟩ : ByteArray), .int .i64 0]) ?_ 0 _ rfl; (with_reducible repeat (first | refine blk_drewN ?_ _ | refine blk_drew ?_ | refine blk_alloc ?_ _)); refine blk_put (cs := #[.string a1_1, .string (⟨#[]⟩ : ByteArray), .int .i64 0]) ?_ 2 _ rfl; (with_reducible repeat (first | refine blk_drewN ?_ _ | refine blk_drew ?_ | refine blk_alloc ?_ _)); refine blk_put (cs := #[.string a1_1, .string (⟨#[]⟩ : ByteArray), .int .i64 0]) ?_ 1 _ rfl; (with_reducible repeat (first | refine blk_drewN ?_ _ | refine blk_drew ?_ | refine blk_alloc ?_ _)); refine blk_put (cs := #[.string (⟨#[]⟩ : ByteArray), .string (⟨#[]⟩ : ByteArray), .int .i64 0]) ?_ 0 _ rfl; (with_reducible repeat (first | refine blk_drewN ?_ _ | refine blk_drew ?_ | refine blk_alloc ?_ _)); exact BK267.out⟩, ⟨zb4 HB.out GE261.out GE262.out GE263.out GE267.out⟩⟩
       ·rw [if_neg c60] at H
        exact absurd H (by simp)
      ·rw [if_neg c59] at H
       exact absurd H (by simp)
     ·rw [if_neg c58] at H
      have c58b0 : decide (0 ≤ t264) = false := decide_eq_false c58
      clear c58
      (first | rw [c58b0] | (simp only [i64_w, i32_w]; rw [c58b0]) | skip)
      have H' := Aside0.mk H
      clear H
      go_wp2
      go_meet
      case rel => exact ⟨_, (a1_1), ((⟨#[]⟩ : ByteArray)), (0), H', ⟨by have := HJ3.out; first | omega | exact Nat.le_refl _⟩, ⟨zf1 BK261.out NB261_267.out⟩, ⟨zf1 BK262.out NB262_267.out⟩, ⟨zf1 BK263.out NB263_267.out⟩, ⟨by (with_reducible repeat (first | refine blk_drewN ?_ _ | refine blk_drew ?_ | refine blk_alloc ?_ _)); refine blk_put (cs := #[.string a1_1, .string (⟨#[]⟩ : ByteArray), .int .i64 0]) ?_ 2 _ rfl; (with_reducible repeat (first | refine blk_drewN ?_ _ | refine blk_drew ?_ | refine blk_alloc ?_ _)); refine blk_put (cs := #[.string a1_1, .string (⟨#[]⟩ : ByteArray), .int .i64 0]) ?_ 1 _ rfl; (with_reducible repeat (first | refine blk_drewN ?_ _ | refine blk_drew ?_ | refine blk_alloc ?_ _)); refine blk_put (cs := #[.string (⟨#[]⟩ : ByteArray), .string (⟨#[]⟩ : ByteArray), .int .i64 0]) ?_ 0 _ rfl; (with_reducible repeat (first | refine blk_drewN ?_ _ | refine blk_drew ?_ | refine blk_alloc ?_ _)); exact BK267.out⟩, ⟨zb4 HB.out GE261.out GE262.out GE263.out GE267.out⟩⟩
    case rest =>
     clear HC49
     try clear c1
     try clear c2
     try clear p2
     try clear q2
     try clear hx2
     try clear c3
     try clear c4
     try clear c5
     try clear c6
     try clear c8
     try clear c9
     try clear c11
     try clear c12
     try clear c15
     try clear c17
     try clear c18
     try clear c18b0
     try clear c19
     try clear c20
     try clear c23
     try clear p26
     try clear q26
     try clear hx26
     try clear c27
     try clear c28
     try clear c31
     try clear c34
     try clear c35
     try clear c38
     try clear c39
     try clear c41
     try clear c42
     try clear c45
     try clear c46
     try clear c47
     try clear c50
     try clear c51
     try clear c54
     try clear c55
     try clear c56
     try clear c58
     try clear c58b0
     try clear c59
     try clear c59b0
     try clear c60
     try clear c60b0
     try clear c60b1
     try clear c61
     try clear c62
     try clear c63
     try clear c65
     try clear c66
     try clear hcz10_0
     try clear hcz12_0
     try clear hcz12_1
     try clear hcz12_2
     try clear hcz12_3
     try clear hcz21_0
     try clear hcz24_0
     try clear hcz24_1
     try clear hcz24_2
     try clear hcz24_3
     try clear hcz26_0
     try clear hcz26_1
     try clear hcz26_2
     try clear hcz26_3
     try clear hcz29_0
     try clear hcz32_0
     try clear hcz32_1
     try clear hcz32_2
     try clear hcz32_3
     try clear hcz36_0
     try clear hcz39_0
     try clear hcz39_1
     try clear hcz39_2
     try clear hcz39_3
     try clear hcz43_0
     try clear hcz48_0
     try clear hcz52_0
     try clear hcz52_1
     try clear hcz52_2
     try clear hcz52_3
     try clear hcz57_0
     try clear hcz57_1
     try clear hcz57_2
     try clear hcz64_0
     try clear hcz67_0
     try clear hcz67_1
     try clear hcz67_2
     try clear hfz10_0
     try clear hfz12_0
     try clear hfz12_1
     try clear hfz12_2
     try clear hfz12_3
     try clear hfz21_0
     try clear hfz24_0
     try clear hfz24_1
     try clear hfz24_2
     try clear hfz24_3
     try clear hfz26_0
     try clear hfz26_1
     try clear hfz26_2
     try clear hfz26_3
     try clear hfz29_0
     try clear hfz32_0
     try clear hfz32_1
     try clear hfz32_2
     try clear hfz32_3
     try clear hfz36_0
     try clear hfz39_0
     try clear hfz39_1
     try clear hfz39_2
     try clear hfz39_3
     try clear hfz43_0
     try clear hfz48_0
     try clear hfz52_0
     try clear hfz52_1
     try clear hfz52_2
     try clear hfz52_3
     try clear hfz57_0
     try clear hfz57_1
     try clear hfz57_2
     try clear hfz64_0
     try clear hfz67_0
     try clear hfz67_1
     try clear hfz67_2
     try clear hx268_0
     try clear hx268_1
     try clear hx268_2
     try clear p2
     try clear p268
     try clear q268
     obtain ⟨kq, x268000_48, x268001_48, x268002_48, HA, HJ48, BK261, BK262, BK263, BK267, HB⟩ := hcut
     cases kq with
     | zero => exact absurd HA.out (by simp [impl_DoAct.j1])
     | succ kj48 =>
      have H := HA.out
      clear HA
      simp only [impl_DoAct.j1] at H
      by_cases c68 : a1_0 = 1
      ·rw [if_pos c68] at H
       have c68b0 : (a1_0 == 1) = true := beq_iff_eq.mpr c68
       have c68b1 : (a1_0 != 1) = false := bne_eq_false_iff_eq.mpr c68
       clear c68
       by_cases c69 : x268001_48.size + a1_2.size ≤ 9223372036854775807
       ·rw [if_pos c69] at H
        have c69b0 := eq_true c69
        have c69b1 : decide (x268001_48.size + a1_2.size ≤ 9223372036854775807) = true := decide_eq_true c69
        try have c69b2 : (9223372036854775807 < x268001_48.size + a1_2.size) = False := eq_false (Nat.not_lt.2 c69)
        replace H := Option.bind_eq_some_iff.mp H
        obtain ⟨t270, A700, H⟩ := H
        try dsimp only at H
        have A70 := Aside0.mk A700
        clear A700
        replace H := Option.bind_eq_some_iff.mp H
        obtain ⟨t273, A710, H⟩ := H
        try dsimp only at H
        have A71 := Aside0.mk A710
        clear A710
        by_cases c72 : t273 = true
        ·subst c72
         have H1 : (some (t270, true)) = some (r1, r2) := by rw [if_pos rfl] at H; exact H
         clear H
         have H := H1
         clear H1
         simp only [Option.some.injEq, Prod.mk.injEq] at H
         obtain ⟨rfl, rfl⟩ := H
         go_wp2_with (first | ((with_reducible refine gate_dst (N := 8) rfl ?_); refine box_event ?hg (N := 8) ?hd (cs := #[.slice none 0 0]) (t := 31) ?hr ?_; (case hd => rfl); (case hg => rfl); (case hr => first | (go_simp; done) | (go_simp; rfl)); intro gb269 hg w73 hbox hb; have BK269 := am (hbox); have GW269 := zge hg (zb4 HB.out GE261.out GE262.out GE263.out GE267.out); have GE269 := zge hg (zb4 HB.out GE261.out GE262.out GE263.out GE267.out); have NB261_269 := znl hg (kx BK261.out); have NB269_261 := zng hg (kx BK261.out); have NB262_269 := znl hg (kx BK262.out); have NB269_262 := zng hg (kx BK262.out); have NB263_269 := znl hg (kx BK263.out); have NB269_263 := zng hg (kx BK263.out); have NB267_269 := znl hg (kx BK267.out); have NB269_267 := zng hg (kx BK267.out); replace BK261 := am (bb hb (kx BK261.out)); replace BK262 := am (bb hb (kx BK262.out)); replace BK263 := am (bb hb (kx BK263.out)); replace BK267 := am (bb hb (kx BK267.out)); replace HB := am (below_step (zb4 HB.out GE261.out GE262.out GE263.out GE267.out) hb); clear hb hbox hg; have hnb74 := NB269_261.out; have hnc74 := NB261_269.out; have hnb75 := NB269_262.out; have hnc75 := NB262_269.out; have hnb76 := NB269_263.out; have hnc76 := NB263_269.out; have hnb77 := NB269_267.out; have hnc77 := NB267_269.out; obtain ⟨hcz78_0, hfz78_0⟩ := zc1 BK269.out; have hnb79 := NB262_261.out; have hnc79 := NB261_262.out; have hnb80 := NB262_263.out; have hnc80 := NB263_262.out; have hnb81 := NB262_267.out; have hnc81 := NB267_262.out; obtain ⟨hcz82_0, hcz82_1, hcz82_2, hcz82_3, hfz82_0, hfz82_1, hfz82_2, hfz82_3⟩ := zc4 BK262.out; have hnb83 := NB267_261.out; have hnc83 := NB261_267.out; have hnb84 := NB267_263.out; have hnc84 := NB263_267.out; obtain ⟨hcz85_0, hcz85_1, hcz85_2, hfz85_0, hfz85_1, hfz85_2⟩ := zc3 BK267.out; have hnb86 := NB261_263.out; have hnc86 := NB263_261.out; obtain ⟨hcz87_0, hfz87_0⟩ := zc1 BK261.out) | ((with_reducible refine gate_callee (f := 41) rfl ?_); refine goesL_ (some 58) rfl rfl Try.func41 (by kernel_rfl) rfl #[.agg #[.slice A0_0 l0_0.length c0_0], .agg #[.string x268000_48, .string (x268001_48 ++ a1_2), .int .i64 x268002_48]] rfl zr ?_; (with_reducible refine (impl_withFile.calls _ _ l0_0 x268000_48 (x268001_48 ++ a1_2) x268002_48 t270 _ ?side1 ?side2 A70.out).mono ?_); (case side1 => exact Kd.C_below HR0_0.out (zb5 HB.out GE261.out GE262.out GE263.out GE267.out GE269.out)); (case side2 => exact HC0_0.out); rintro e w88 ⟨v271, rfl, ho0, hb⟩; refine ⟨_, rfl, ?_⟩; have HO272 := am (Kd.R_lower (Kd.R_newB ho0 (g := gb267) (o := .cells #[.string x268000_48, .string (x268001_48 ++ a1_2), .int .i64 x268002_48] 66 (0, 0)) (by (with_reducible repeat (first | refine blk_drewN ?_ _ | refine blk_drew ?_ | refine blk_alloc ?_ _)); refine blk_put (cs := #[.string x268000_48, .string x268001_48, .int .i64 x268002_48]) ?_ 1 _ rfl; (with_reducible repeat (first | refine blk_drewN ?_ _ | refine blk_drew ?_ | refine blk_alloc ?_ _)); refine blk_far ?_ NB267_269.out _; (with_reducible repeat (first | refine blk_drewN ?_ _ | refine blk_drew ?_ | refine blk_alloc ?_ _)); exact BK267.out)) (below_size (zb5 HB.out GE261.out GE262.out GE263.out GE267.out GE269.out))); replace BK261 := am (bb hb (zf2 BK261.out NB261_267.out NB261_269.out)); replace BK262 := am (bb hb (zf2 BK262.out NB262_267.out NB262_269.out)); replace BK263 := am (bb hb (zf2 BK263.out NB263_267.out NB263_269.out)); replace BK267 := am (blk_below (g := gb267) (o := .cells #[.string x268000_48, .string (x268001_48 ++ a1_2), .int .i64 x268002_48] 66 (0, 0)) (by (with_reducible repeat (first | refine blk_drewN ?_ _ | refine blk_drew ?_ | refine blk_alloc ?_ _)); refine blk_put (cs := #[.string x268000_48, .string x268001_48, .int .i64 x268002_48]) ?_ 1 _ rfl; (with_reducible repeat (first | refine blk_drewN ?_ _ | refine blk_drew ?_ | refine blk_alloc ?_ _)); refine blk_far ?_ NB267_269.out _; (with_reducible repeat (first | refine blk_drewN ?_ _ | refine blk_drew ?_ | refine blk_alloc ?_ _)); exact BK267.out) hb); replace BK269 := am (blk_below (g := gb269) (o := .cells #[.slice none 0 0] 31 (0, 0)) (by (with_reducible repeat (first | refine blk_drewN ?_ _ | refine blk_drew ?_ | refine blk_alloc ?_ _)); refine blk_far ?_ NB269_267.out _; (with_reducible repeat (first | refine blk_drewN ?_ _ | refine blk_drew ?_ | refine blk_alloc ?_ _)); refine blk_put (cs := #[.slice none 0 0]) ?_ 0 _ rfl; (with_reducible repeat (first | refine blk_drewN ?_ _ | refine blk_drew ?_ | refine blk_alloc ?_ _)); exact BK269.out) hb); replace HB := am (below_step (zb5 HB.out GE261.out GE262.out GE263.out GE267.out GE269.out) hb); (try clear hb); (try clear hb2); (try clear hk); (try clear hi); (try clear ho0); obtain ⟨Ao89, co89, eo89⟩ := Kd.R_slice HO272.out; subst eo89; obtain ⟨hcz90_0, hfz90_0⟩ := zc1 BK269.out) | ((with_reducible refine gate_callee (f := 39) rfl ?_); refine goesL_ (some 94) rfl rfl Try.func39 (by kernel_rfl) rfl #[.agg #[.slice Ao89 t270.length co89]] rfl zr ?_; (with_reducible refine (impl_DiskOk.calls kj48 _ _ t270 true _ ?side1 ?side2 A71.out).mono ?_); (case side1 => refine (Kd.R_reads' (e := 66) (base := w.heap.size) (ok := fun k_ => (True ∧ k_ ≠ gb267)) (n := t270.length) (c := co89) ?_).2.2; exact (rx ((Kd.R_mono (Kd.R_far (p := ⟨gb269, 0, none⟩) (Kd.R_types HO272.out BK269.out (by decide)) (fun _ hk => hk.2) (.slice Ao89 t270.length co89)) (fun _ h_ => h_.1))))); (case side2 => exact (Kd.R_reads' HO272.out).2.1); rintro e w91 ⟨rfl, hb⟩; refine ⟨_, rfl, ?_⟩; replace HO272 := am (Kd.R_below (rx ((Kd.R_mono (Kd.R_far (p := ⟨gb269, 0, none⟩) (Kd.R_types HO272.out BK269.out (by decide)) (fun _ hk => hk.2) (.slice Ao89 t270.length co89)) (fun _ h_ => h_.1)))) hb); replace BK261 := am (bb hb (zf1 BK261.out NB261_269.out)); replace BK262 := am (bb hb (zf1 BK262.out NB262_269.out)); replace BK263 := am (bb hb (zf1 BK263.out NB263_269.out)); replace BK267 := am (bb hb (zf1 BK267.out NB267_269.out)); replace BK269 := am (blk_below (g := gb269) (o := .cells #[.slice Ao89 t270.length co89] 31 (0, 0)) (by (with_reducible repeat (first | refine blk_drewN ?_ _ | refine blk_drew ?_ | refine blk_alloc ?_ _)); refine blk_put (cs := #[.slice none 0 0]) ?_ 0 _ rfl; (with_reducible repeat (first | refine blk_drewN ?_ _ | refine blk_drew ?_ | refine blk_alloc ?_ _)); exact BK269.out) hb); replace HB := am (below_step (zb5 HB.out GE261.out GE262.out GE263.out GE267.out GE269.out) hb); (try clear hb); (try clear hb2); (try clear hk); (try clear hi); obtain ⟨hcz92_0, hfz92_0⟩ := zc1 BK269.out; obtain ⟨hcz93_0, hfz93_0⟩ := zc1 BK263.out))
         refine bodyPost_ret (results_ct rfl _ _ gb263 31 #[.slice Ao89 t270.length co89] (0, 0) _ rfl (by (with_reducible repeat (first | refine blk_drewN ?_ _ | refine blk_drew ?_ | refine blk_alloc ?_ _)); refine blk_put (cs := #[.slice none 0 0]) ?_ 0 _ rfl; (with_reducible repeat (first | refine blk_drewN ?_ _ | refine blk_drew ?_ | refine blk_alloc ?_ _)); exact BK263.out) Try.underlying31 rfl (by kernel_rfl)) rfl ?_
         exact ⟨_, by first | rfl | (simp [errW_none, errW_some] <;> rfl) | (simp [*, errW_none, errW_some] <;> rfl), rx (Kd.R_mono (Kd.R_far (p := ⟨gb263, 0, none⟩) (Kd.R_types HO272.out BK263.out (by decide)) (fun _ hk => hk.2) (.slice Ao89 t270.length co89)) (fun _ hk => trivial)), zb5 HB.out GE261.out GE262.out GE263.out GE267.out GE269.out⟩
        ·replace c72 := Bool.eq_false_iff.mpr c72
         subst c72
         have H1 : (some (([] : List (S66)), false)) = some (r1, r2) := by rw [if_neg (show ¬ (false = true) by decide)] at H; exact H
         clear H
         have H := H1
         clear H1
         simp only [Option.some.injEq, Prod.mk.injEq] at H
         obtain ⟨rfl, rfl⟩ := H
         go_wp2_with (first | ((with_reducible refine gate_dst (N := 8) rfl ?_); refine box_event ?hg (N := 8) ?hd (cs := #[.slice none 0 0]) (t := 31) ?hr ?_; (case hd => rfl); (case hg => rfl); (case hr => first | (go_simp; done) | (go_simp; rfl)); intro gb269 hg w94 hbox hb; have BK269 := am (hbox); have GW269 := zge hg (zb4 HB.out GE261.out GE262.out GE263.out GE267.out); have GE269 := zge hg (zb4 HB.out GE261.out GE262.out GE263.out GE267.out); have NB261_269 := znl hg (kx BK261.out); have NB269_261 := zng hg (kx BK261.out); have NB262_269 := znl hg (kx BK262.out); have NB269_262 := zng hg (kx BK262.out); have NB263_269 := znl hg (kx BK263.out); have NB269_263 := zng hg (kx BK263.out); have NB267_269 := znl hg (kx BK267.out); have NB269_267 := zng hg (kx BK267.out); replace BK261 := am (bb hb (kx BK261.out)); replace BK262 := am (bb hb (kx BK262.out)); replace BK263 := am (bb hb (kx BK263.out)); replace BK267 := am (bb hb (kx BK267.out)); replace HB := am (below_step (zb4 HB.out GE261.out GE262.out GE263.out GE267.out) hb); clear hb hbox hg; have hnb95 := NB269_261.out; have hnc95 := NB261_269.out; have hnb96 := NB269_262.out; have hnc96 := NB262_269.out; have hnb97 := NB269_263.out; have hnc97 := NB263_269.out; have hnb98 := NB269_267.out; have hnc98 := NB267_269.out; obtain ⟨hcz99_0, hfz99_0⟩ := zc1 BK269.out; have hnb100 := NB262_261.out; have hnc100 := NB261_262.out; have hnb101 := NB262_263.out; have hnc101 := NB263_262.out; have hnb102 := NB262_267.out; have hnc102 := NB267_262.out; obtain ⟨hcz103_0, hcz103_1, hcz103_2, hcz103_3, hfz103_0, hfz103_1, hfz103_2, hfz103_3⟩ := zc4 BK262.out; have hnb104 := NB267_261.out; have hnc104 := NB261_267.out; have hnb105 := NB267_263.out; have hnc105 := NB263_267.out; obtain ⟨hcz106_0, hcz106_1, hcz106_2, hfz106_0, hfz106_1, hfz106_2⟩ := zc3 BK267.out; have hnb107 := NB261_263.out; have hnc107 := NB263_261.out; obtain ⟨hcz108_0, hfz108_0⟩ := zc1 BK261.out) | ((with_reducible refine gate_callee (f := 41) rfl ?_); refine goesL_ (some 58) rfl rfl Try.func41 (by kernel_rfl) rfl #[.agg #[.slice A0_0 l0_0.length c0_0], .agg #[.string x268000_48, .string (x268001_48 ++ a1_2), .int .i64 x268002_48]] rfl zr ?_; (with_reducible refine (impl_withFile.calls _ _ l0_0 x268000_48 (x268001_48 ++ a1_2) x268002_48 t270 _ ?side1 ?side2 A70.out).mono ?_); (case side1 => exact Kd.C_below HR0_0.out (zb5 HB.out GE261.out GE262.out GE263.out GE267.out GE269.out)); (case side2 => exact HC0_0.out); rintro e w109 ⟨v271, rfl, ho0, hb⟩; refine ⟨_, rfl, ?_⟩; have HO272 := am (Kd.R_lower (Kd.R_newB ho0 (g := gb267) (o := .cells #[.string x268000_48, .string (x268001_48 ++ a1_2), .int .i64 x268002_48] 66 (0, 0)) (by (with_reducible repeat (first | refine blk_drewN ?_ _ | refine blk_drew ?_ | refine blk_alloc ?_ _)); refine blk_put (cs := #[.string x268000_48, .string x268001_48, .int .i64 x268002_48]) ?_ 1 _ rfl; (with_reducible repeat (first | refine blk_drewN ?_ _ | refine blk_drew ?_ | refine blk_alloc ?_ _)); refine blk_far ?_ NB267_269.out _; (with_reducible repeat (first | refine blk_drewN ?_ _ | refine blk_drew ?_ | refine blk_alloc ?_ _)); exact BK267.out)) (below_size (zb5 HB.out GE261.out GE262.out GE263.out GE267.out GE269.out))); replace BK261 := am (bb hb (zf2 BK261.out NB261_267.out NB261_269.out)); replace BK262 := am (bb hb (zf2 BK262.out NB262_267.out NB262_269.out)); replace BK263 := am (bb hb (zf2 BK263.out NB263_267.out NB263_269.out)); replace BK267 := am (blk_below (g := gb267) (o := .cells #[.string x268000_48, .string (x268001_48 ++ a1_2), .int .i64 x268002_48] 66 (0, 0)) (by (with_reducible repeat (first | refine blk_drewN ?_ _ | refine blk_drew ?_ | refine blk_alloc ?_ _)); refine blk_put (cs := #[.string x268000_48, .string x268001_48, .int .i64 x268002_48]) ?_ 1 _ rfl; (with_reducible repeat (first | refine blk_drewN ?_ _ | refine blk_drew ?_ | refine blk_alloc ?_ _)); refine blk_far ?_ NB267_269.out _; (with_reducible repeat (first | refine blk_drewN ?_ _ | refine blk_drew ?_ | refine blk_alloc ?_ _)); exact BK267.out) hb); replace BK269 := am (blk_below (g := gb269) (o := .cells #[.slice none 0 0] 31 (0, 0)) (by (with_reducible repeat (first | refine blk_drewN ?_ _ | refine blk_drew ?_ | refine blk_alloc ?_ _)); refine blk_far ?_ NB269_267.out _; (with_reducible repeat (first | refine blk_drewN ?_ _ | refine blk_drew ?_ | refine blk_alloc ?_ _)); refine blk_put (cs := #[.slice none 0 0]) ?_ 0 _ rfl; (with_reducible repeat (first | refine blk_drewN ?_ _ | refine blk_drew ?_ | refine blk_alloc ?_ _)); exact BK269.out) hb); replace HB := am (below_step (zb5 HB.out GE261.out GE262.out GE263.out GE267.out GE269.out) hb); (try clear hb); (try clear hb2); (try clear hk); (try clear hi); (try clear ho0); obtain ⟨Ao110, co110, eo110⟩ := Kd.R_slice HO272.out; subst eo110; obtain ⟨hcz111_0, hfz111_0⟩ := zc1 BK269.out) | ((with_reducible refine gate_callee (f := 39) rfl ?_); refine goesL_ (some 94) rfl rfl Try.func39 (by kernel_rfl) rfl #[.agg #[.slice Ao110 t270.length co110]] rfl zr ?_; (with_reducible refine (impl_DiskOk.calls kj48 _ _ t270 false _ ?side1 ?side2 A71.out).mono ?_); (case side1 => refine (Kd.R_reads' (e := 66) (base := w.heap.size) (ok := fun k_ => (True ∧ k_ ≠ gb267)) (n := t270.length) (c := co110) ?_).2.2; exact (rx ((Kd.R_mono (Kd.R_far (p := ⟨gb269, 0, none⟩) (Kd.R_types HO272.out BK269.out (by decide)) (fun _ hk => hk.2) (.slice Ao110 t270.length co110)) (fun _ h_ => h_.1))))); (case side2 => exact (Kd.R_reads' HO272.out).2.1); rintro e w112 ⟨rfl, hb⟩; refine ⟨_, rfl, ?_⟩; replace HO272 := am (Kd.R_below (rx ((Kd.R_mono (Kd.R_far (p := ⟨gb269, 0, none⟩) (Kd.R_types HO272.out BK269.out (by decide)) (fun _ hk => hk.2) (.slice Ao110 t270.length co110)) (fun _ h_ => h_.1)))) hb); replace BK261 := am (bb hb (zf1 BK261.out NB261_269.out)); replace BK262 := am (bb hb (zf1 BK262.out NB262_269.out)); replace BK263 := am (bb hb (zf1 BK263.out NB263_269.out)); replace BK267 := am (bb hb (zf1 BK267.out NB267_269.out)); replace BK269 := am (blk_below (g := gb269) (o := .cells #[.slice Ao110 t270.length co110] 31 (0, 0)) (by (with_reducible repeat (first | refine blk_drewN ?_ _ | refine blk_drew ?_ | refine blk_alloc ?_ _)); refine blk_put (cs := #[.slice none 0 0]) ?_ 0 _ rfl; (with_reducible repeat (first | refine blk_drewN ?_ _ | refine blk_drew ?_ | refine blk_alloc ?_ _)); exact BK269.out) hb); replace HB := am (below_step (zb5 HB.out GE261.out GE262.out GE263.out GE267.out GE269.out) hb); (try clear hb); (try clear hb2); (try clear hk); (try clear hi); obtain ⟨hcz113_0, hfz113_0⟩ := zc1 BK263.out))
         refine bodyPost_ret (results_ct rfl _ _ gb263 31 #[.slice none 0 0] (0, 0) _ rfl (by (with_reducible repeat (first | refine blk_drewN ?_ _ | refine blk_drew ?_ | refine blk_alloc ?_ _)); refine blk_put (cs := #[.slice none 0 0]) ?_ 0 _ rfl; (with_reducible repeat (first | refine blk_drewN ?_ _ | refine blk_drew ?_ | refine blk_alloc ?_ _)); exact BK263.out) Try.underlying31 rfl (by kernel_rfl)) rfl ?_
         exact ⟨_, by first | rfl | (simp [errW_none, errW_some] <;> rfl) | (simp [*, errW_none, errW_some] <;> rfl), by first | exact Kd.R_nil _ _ _ _ _ | exact Kd.N_nil _ _ _ _ _ | exact Kd.V_nil _ _ _ _ _ | exact Kd.Q_nil _ _ _ _ _ | exact Kd.S_nil _ _ _ _ _, zb5 HB.out GE261.out GE262.out GE263.out GE267.out GE269.out⟩
       ·rw [if_neg c69] at H
        exact absurd H (by simp)
      ·rw [if_neg c68] at H
       have c68b0 : (a1_0 == 1) = false := beq_eq_false_iff_ne.mpr c68
       have c68b1 : (a1_0 != 1) = true := bne_iff_ne.mpr c68
       by_cases c114 : a1_0 = 2
       ·rw [if_pos c114] at H
        have c114b0 : (a1_0 == 2) = true := beq_iff_eq.mpr c114
        have c114b1 : (a1_0 != 2) = false := bne_eq_false_iff_eq.mpr c114
        clear c114
        replace H := Option.bind_eq_some_iff.mp H
        obtain ⟨t274, A1150, H⟩ := H
        try dsimp only at H
        have A115 := Aside0.mk A1150
        clear A1150
        replace H := Option.bind_eq_some_iff.mp H
        obtain ⟨t277, A1160, H⟩ := H
        try dsimp only at H
        have A116 := Aside0.mk A1160
        clear A1160
        by_cases c117 : t277 = true
        ·subst c117
         have H1 : (some (t274, true)) = some (r1, r2) := by rw [if_pos rfl] at H; exact H
         clear H
         have H := H1
         clear H1
         simp only [Option.some.injEq, Prod.mk.injEq] at H
         obtain ⟨rfl, rfl⟩ := H
         go_wp2_with (first | ((with_reducible refine gate_dst (N := 8) rfl ?_); refine box_event ?hg (N := 8) ?hd (cs := #[.slice none 0 0]) (t := 31) ?hr ?_; (case hd => rfl); (case hg => rfl); (case hr => first | (go_simp; done) | (go_simp; rfl)); intro gb269 hg w118 hbox hb; have BK269 := am (hbox); have GW269 := zge hg (zb4 HB.out GE261.out GE262.out GE263.out GE267.out); have GE269 := zge hg (zb4 HB.out GE261.out GE262.out GE263.out GE267.out); have NB261_269 := znl hg (kx BK261.out); have NB269_261 := zng hg (kx BK261.out); have NB262_269 := znl hg (kx BK262.out); have NB269_262 := zng hg (kx BK262.out); have NB263_269 := znl hg (kx BK263.out); have NB269_263 := zng hg (kx BK263.out); have NB267_269 := znl hg (kx BK267.out); have NB269_267 := zng hg (kx BK267.out); replace BK261 := am (bb hb (kx BK261.out)); replace BK262 := am (bb hb (kx BK262.out)); replace BK263 := am (bb hb (kx BK263.out)); replace BK267 := am (bb hb (kx BK267.out)); replace HB := am (below_step (zb4 HB.out GE261.out GE262.out GE263.out GE267.out) hb); clear hb hbox hg; have hnb119 := NB269_261.out; have hnc119 := NB261_269.out; have hnb120 := NB269_262.out; have hnc120 := NB262_269.out; have hnb121 := NB269_263.out; have hnc121 := NB263_269.out; have hnb122 := NB269_267.out; have hnc122 := NB267_269.out; obtain ⟨hcz123_0, hfz123_0⟩ := zc1 BK269.out; have hnb124 := NB262_261.out; have hnc124 := NB261_262.out; have hnb125 := NB262_263.out; have hnc125 := NB263_262.out; have hnb126 := NB262_267.out; have hnc126 := NB267_262.out; obtain ⟨hcz127_0, hcz127_1, hcz127_2, hcz127_3, hfz127_0, hfz127_1, hfz127_2, hfz127_3⟩ := zc4 BK262.out; have hnb128 := NB267_261.out; have hnc128 := NB261_267.out; have hnb129 := NB267_263.out; have hnc129 := NB263_267.out; obtain ⟨hcz130_0, hcz130_1, hcz130_2, hfz130_0, hfz130_1, hfz130_2⟩ := zc3 BK267.out; have hnb131 := NB261_263.out; have hnc131 := NB263_261.out; obtain ⟨hcz132_0, hfz132_0⟩ := zc1 BK261.out) | ((with_reducible refine gate_callee (f := 41) rfl ?_); refine goesL_ (some 67) rfl rfl Try.func41 (by kernel_rfl) rfl #[.agg #[.slice A0_0 l0_0.length c0_0], .agg #[.string x268000_48, .string x268001_48, .int .i64 (x268001_48.size : Int)]] rfl zr ?_; (with_reducible refine (impl_withFile.calls _ _ l0_0 x268000_48 x268001_48 (x268001_48.size : Int) t274 _ ?side1 ?side2 A115.out).mono ?_); (case side1 => exact Kd.C_below HR0_0.out (zb5 HB.out GE261.out GE262.out GE263.out GE267.out GE269.out)); (case side2 => exact HC0_0.out); rintro e w133 ⟨v275, rfl, ho0, hb⟩; refine ⟨_, rfl, ?_⟩; have HO276 := am (Kd.R_lower (Kd.R_newB ho0 (g := gb267) (o := .cells #[.string x268000_48, .string x268001_48, .int .i64 (x268001_48.size : Int)] 66 (0, 0)) (by (with_reducible repeat (first | refine blk_drewN ?_ _ | refine blk_drew ?_ | refine blk_alloc ?_ _)); refine blk_put (cs := #[.string x268000_48, .string x268001_48, .int .i64 x268002_48]) ?_ 2 _ rfl; (with_reducible repeat (first | refine blk_drewN ?_ _ | refine blk_drew ?_ | refine blk_alloc ?_ _)); refine blk_far ?_ NB267_269.out _; (with_reducible repeat (first | refine blk_drewN ?_ _ | refine blk_drew ?_ | refine blk_alloc ?_ _)); exact BK267.out)) (below_size (zb5 HB.out GE261.out GE262.out GE263.out GE267.out GE269.out))); replace BK261 := am (bb hb (zf2 BK261.out NB261_267.out NB261_269.out)); replace BK262 := am (bb hb (zf2 BK262.out NB262_267.out NB262_269.out)); replace BK263 := am (bb hb (zf2 BK263.out NB263_267.out NB263_269.out)); replace BK267 := am (blk_below (g := gb267) (o := .cells #[.string x268000_48, .string x268001_48, .int .i64 (x268001_48.size : Int)] 66 (0, 0)) (by (with_reducible repeat (first | refine blk_drewN ?_ _ | refine blk_drew ?_ | refine blk_alloc ?_ _)); refine blk_put (cs := #[.string x268000_48, .string x268001_48, .int .i64 x268002_48]) ?_ 2 _ rfl; (with_reducible repeat (first | refine blk_drewN ?_ _ | refine blk_drew ?_ | refine blk_alloc ?_ _)); refine blk_far ?_ NB267_269.out _; (with_reducible repeat (first | refine blk_drewN ?_ _ | refine blk_drew ?_ | refine blk_alloc ?_ _)); exact BK267.out) hb); replace BK269 := am (blk_below (g := gb269) (o := .cells #[.slice none 0 0] 31 (0, 0)) (by (with_reducible repeat (first | refine blk_drewN ?_ _ | refine blk_drew ?_ | refine blk_alloc ?_ _)); refine blk_far ?_ NB269_267.out _; (with_reducible repeat (first | refine blk_drewN ?_ _ | refine blk_drew ?_ | refine blk_alloc ?_ _)); refine blk_put (cs := #[.slice none 0 0]) ?_ 0 _ rfl; (with_reducible repeat (first | refine blk_drewN ?_ _ | refine blk_drew ?_ | refine blk_alloc ?_ _)); exact BK269.out) hb); replace HB := am (below_step (zb5 HB.out GE261.out GE262.out GE263.out GE267.out GE269.out) hb); (try clear hb); (try clear hb2); (try clear hk); (try clear hi); (try clear ho0); obtain ⟨Ao134, co134, eo134⟩ := Kd.R_slice HO276.out; subst eo134; obtain ⟨hcz135_0, hfz135_0⟩ := zc1 BK269.out) | ((with_reducible refine gate_callee (f := 39) rfl ?_); refine goesL_ (some 94) rfl rfl Try.func39 (by kernel_rfl) rfl #[.agg #[.slice Ao134 t274.length co134]] rfl zr ?_; (with_reducible refine (impl_DiskOk.calls kj48 _ _ t274 true _ ?side1 ?side2 A116.out).mono ?_); (case side1 => refine (Kd.R_reads' (e := 66) (base := w.heap.size) (ok := fun k_ => (True ∧ k_ ≠ gb267)) (n := t274.length) (c := co134) ?_).2.2; exact (rx ((Kd.R_mono (Kd.R_far (p := ⟨gb269, 0, none⟩) (Kd.R_types HO276.out BK269.out (by decide)) (fun _ hk => hk.2) (.slice Ao134 t274.length co134)) (fun _ h_ => h_.1))))); (case side2 => exact (Kd.R_reads' HO276.out).2.1); rintro e w136 ⟨rfl, hb⟩; refine ⟨_, rfl, ?_⟩; replace HO276 := am (Kd.R_below (rx ((Kd.R_mono (Kd.R_far (p := ⟨gb269, 0, none⟩) (Kd.R_types HO276.out BK269.out (by decide)) (fun _ hk => hk.2) (.slice Ao134 t274.length co134)) (fun _ h_ => h_.1)))) hb); replace BK261 := am (bb hb (zf1 BK261.out NB261_269.out)); replace BK262 := am (bb hb (zf1 BK262.out NB262_269.out)); replace BK263 := am (bb hb (zf1 BK263.out NB263_269.out)); replace BK267 := am (bb hb (zf1 BK267.out NB267_269.out)); replace BK269 := am (blk_below (g := gb269) (o := .cells #[.slice Ao134 t274.length co134] 31 (0, 0)) (by (with_reducible repeat (first | refine blk_drewN ?_ _ | refine blk_drew ?_ | refine blk_alloc ?_ _)); refine blk_put (cs := #[.slice none 0 0]) ?_ 0 _ rfl; (with_reducible repeat (first | refine blk_drewN ?_ _ | refine blk_drew ?_ | refine blk_alloc ?_ _)); exact BK269.out) hb); replace HB := am (below_step (zb5 HB.out GE261.out GE262.out GE263.out GE267.out GE269.out) hb); (try clear hb); (try clear hb2); (try clear hk); (try clear hi); obtain ⟨hcz137_0, hfz137_0⟩ := zc1 BK269.out; obtain ⟨hcz138_0, hfz138_0⟩ := zc1 BK263.out))
         refine bodyPost_ret (results_ct rfl _ _ gb263 31 #[.slice Ao134 t274.length co134] (0, 0) _ rfl (by (with_reducible repeat (first | refine blk_drewN ?_ _ | refine blk_drew ?_ | refine blk_alloc ?_ _)); refine blk_put (cs := #[.slice none 0 0]) ?_ 0 _ rfl; (with_reducible repeat (first | refine blk_drewN ?_ _ | refine blk_drew ?_ | refine blk_alloc ?_ _)); exact BK263.out) Try.underlying31 rfl (by kernel_rfl)) rfl ?_
         exact ⟨_, by first | rfl | (simp [errW_none, errW_some] <;> rfl) | (simp [*, errW_none, errW_some] <;> rfl), rx (Kd.R_mono (Kd.R_far (p := ⟨gb263, 0, none⟩) (Kd.R_types HO276.out BK263.out (by decide)) (fun _ hk => hk.2) (.slice Ao134 t274.length co134)) (fun _ hk => trivial)), zb5 HB.out GE261.out GE262.out GE263.out GE267.out GE269.out⟩
        ·replace c117 := Bool.eq_false_iff.mpr c117
         subst c117
         have H1 : (some (([] : List (S66)), false)) = some (r1, r2) := by rw [if_neg (show ¬ (false = true) by decide)] at H; exact H
         clear H
         have H := H1
         clear H1
         simp only [Option.some.injEq, Prod.mk.injEq] at H
         obtain ⟨rfl, rfl⟩ := H
         go_wp2_with (first | ((with_reducible refine gate_dst (N := 8) rfl ?_); refine box_event ?hg (N := 8) ?hd (cs := #[.slice none 0 0]) (t := 31) ?hr ?_; (case hd => rfl); (case hg => rfl); (case hr => first | (go_simp; done) | (go_simp; rfl)); intro gb269 hg w139 hbox hb; have BK269 := am (hbox); have GW269 := zge hg (zb4 HB.out GE261.out GE262.out GE263.out GE267.out); have GE269 := zge hg (zb4 HB.out GE261.out GE262.out GE263.out GE267.out); have NB261_269 := znl hg (kx BK261.out); have NB269_261 := zng hg (kx BK261.out); have NB262_269 := znl hg (kx BK262.out); have NB269_262 := zng hg (kx BK262.out); have NB263_269 := znl hg (kx BK263.out); have NB269_263 := zng hg (kx BK263.out); have NB267_269 := znl hg (kx BK267.out); have NB269_267 := zng hg (kx BK267.out); replace BK261 := am (bb hb (kx BK261.out)); replace BK262 := am (bb hb (kx BK262.out)); replace BK263 := am (bb hb (kx BK263.out)); replace BK267 := am (bb hb (kx BK267.out)); replace HB := am (below_step (zb4 HB.out GE261.out GE262.out GE263.out GE267.out) hb); clear hb hbox hg; have hnb140 := NB269_261.out; have hnc140 := NB261_269.out; have hnb141 := NB269_262.out; have hnc141 := NB262_269.out; have hnb142 := NB269_263.out; have hnc142 := NB263_269.out; have hnb143 := NB269_267.out; have hnc143 := NB267_269.out; obtain ⟨hcz144_0, hfz144_0⟩ := zc1 BK269.out; have hnb145 := NB262_261.out; have hnc145 := NB261_262.out; have hnb146 := NB262_263.out; have hnc146 := NB263_262.out; have hnb147 := NB262_267.out; have hnc147 := NB267_262.out; obtain ⟨hcz148_0, hcz148_1, hcz148_2, hcz148_3, hfz148_0, hfz148_1, hfz148_2, hfz148_3⟩ := zc4 BK262.out; have hnb149 := NB267_261.out; have hnc149 := NB261_267.out; have hnb150 := NB267_263.out; have hnc150 := NB263_267.out; obtain ⟨hcz151_0, hcz151_1, hcz151_2, hfz151_0, hfz151_1, hfz151_2⟩ := zc3 BK267.out; have hnb152 := NB261_263.out; have hnc152 := NB263_261.out; obtain ⟨hcz153_0, hfz153_0⟩ := zc1 BK261.out) | ((with_reducible refine gate_callee (f := 41) rfl ?_); refine goesL_ (some 67) rfl rfl Try.func41 (by kernel_rfl) rfl #[.agg #[.slice A0_0 l0_0.length c0_0], .agg #[.string x268000_48, .string x268001_48, .int .i64 (x268001_48.size : Int)]] rfl zr ?_; (with_reducible refine (impl_withFile.calls _ _ l0_0 x268000_48 x268001_48 (x268001_48.size : Int) t274 _ ?side1 ?side2 A115.out).mono ?_); (case side1 => exact Kd.C_below HR0_0.out (zb5 HB.out GE261.out GE262.out GE263.out GE267.out GE269.out)); (case side2 => exact HC0_0.out); rintro e w154 ⟨v275, rfl, ho0, hb⟩; refine ⟨_, rfl, ?_⟩; have HO276 := am (Kd.R_lower (Kd.R_newB ho0 (g := gb267) (o := .cells #[.string x268000_48, .string x268001_48, .int .i64 (x268001_48.size : Int)] 66 (0, 0)) (by (with_reducible repeat (first | refine blk_drewN ?_ _ | refine blk_drew ?_ | refine blk_alloc ?_ _)); refine blk_put (cs := #[.string x268000_48, .string x268001_48, .int .i64 x268002_48]) ?_ 2 _ rfl; (with_reducible repeat (first | refine blk_drewN ?_ _ | refine blk_drew ?_ | refine blk_alloc ?_ _)); refine blk_far ?_ NB267_269.out _; (with_reducible repeat (first | refine blk_drewN ?_ _ | refine blk_drew ?_ | refine blk_alloc ?_ _)); exact BK267.out)) (below_size (zb5 HB.out GE261.out GE262.out GE263.out GE267.out GE269.out))); replace BK261 := am (bb hb (zf2 BK261.out NB261_267.out NB261_269.out)); replace BK262 := am (bb hb (zf2 BK262.out NB262_267.out NB262_269.out)); replace BK263 := am (bb hb (zf2 BK263.out NB263_267.out NB263_269.out)); replace BK267 := am (blk_below (g := gb267) (o := .cells #[.string x268000_48, .string x268001_48, .int .i64 (x268001_48.size : Int)] 66 (0, 0)) (by (with_reducible repeat (first | refine blk_drewN ?_ _ | refine blk_drew ?_ | refine blk_alloc ?_ _)); refine blk_put (cs := #[.string x268000_48, .string x268001_48, .int .i64 x268002_48]) ?_ 2 _ rfl; (with_reducible repeat (first | refine blk_drewN ?_ _ | refine blk_drew ?_ | refine blk_alloc ?_ _)); refine blk_far ?_ NB267_269.out _; (with_reducible repeat (first | refine blk_drewN ?_ _ | refine blk_drew ?_ | refine blk_alloc ?_ _)); exact BK267.out) hb); replace BK269 := am (blk_below (g := gb269) (o := .cells #[.slice none 0 0] 31 (0, 0)) (by (with_reducible repeat (first | refine blk_drewN ?_ _ | refine blk_drew ?_ | refine blk_alloc ?_ _)); refine blk_far ?_ NB269_267.out _; (with_reducible repeat (first | refine blk_drewN ?_ _ | refine blk_drew ?_ | refine blk_alloc ?_ _)); refine blk_put (cs := #[.slice none 0 0]) ?_ 0 _ rfl; (with_reducible repeat (first | refine blk_drewN ?_ _ | refine blk_drew ?_ | refine blk_alloc ?_ _)); exact BK269.out) hb); replace HB := am (below_step (zb5 HB.out GE261.out GE262.out GE263.out GE267.out GE269.out) hb); (try clear hb); (try clear hb2); (try clear hk); (try clear hi); (try clear ho0); obtain ⟨Ao155, co155, eo155⟩ := Kd.R_slice HO276.out; subst eo155; obtain ⟨hcz156_0, hfz156_0⟩ := zc1 BK269.out) | ((with_reducible refine gate_callee (f := 39) rfl ?_); refine goesL_ (some 94) rfl rfl Try.func39 (by kernel_rfl) rfl #[.agg #[.slice Ao155 t274.length co155]] rfl zr ?_; (with_reducible refine (impl_DiskOk.calls kj48 _ _ t274 false _ ?side1 ?side2 A116.out).mono ?_); (case side1 => refine (Kd.R_reads' (e := 66) (base := w.heap.size) (ok := fun k_ => (True ∧ k_ ≠ gb267)) (n := t274.length) (c := co155) ?_).2.2; exact (rx ((Kd.R_mono (Kd.R_far (p := ⟨gb269, 0, none⟩) (Kd.R_types HO276.out BK269.out (by decide)) (fun _ hk => hk.2) (.slice Ao155 t274.length co155)) (fun _ h_ => h_.1))))); (case side2 => exact (Kd.R_reads' HO276.out).2.1); rintro e w157 ⟨rfl, hb⟩; refine ⟨_, rfl, ?_⟩; replace HO276 := am (Kd.R_below (rx ((Kd.R_mono (Kd.R_far (p := ⟨gb269, 0, none⟩) (Kd.R_types HO276.out BK269.out (by decide)) (fun _ hk => hk.2) (.slice Ao155 t274.length co155)) (fun _ h_ => h_.1)))) hb); replace BK261 := am (bb hb (zf1 BK261.out NB261_269.out)); replace BK262 := am (bb hb (zf1 BK262.out NB262_269.out)); replace BK263 := am (bb hb (zf1 BK263.out NB263_269.out)); replace BK267 := am (bb hb (zf1 BK267.out NB267_269.out)); replace BK269 := am (blk_below (g := gb269) (o := .cells #[.slice Ao155 t274.length co155] 31 (0, 0)) (by (with_reducible repeat (first | refine blk_drewN ?_ _ | refine blk_drew ?_ | refine blk_alloc ?_ _)); refine blk_put (cs := #[.slice none 0 0]) ?_ 0 _ rfl; (with_reducible repeat (first | refine blk_drewN ?_ _ | refine blk_drew ?_ | refine blk_alloc ?_ _)); exact BK269.out) hb); replace HB := am (below_step (zb5 HB.out GE261.out GE262.out GE263.out GE267.out GE269.out) hb); (try clear hb); (try clear hb2); (try clear hk); (try clear hi); obtain ⟨hcz158_0, hfz158_0⟩ := zc1 BK263.out))
         refine bodyPost_ret (results_ct rfl _ _ gb263 31 #[.slice none 0 0] (0, 0) _ rfl (by (with_reducible repeat (first | refine blk_drewN ?_ _ | refine blk_drew ?_ | refine blk_alloc ?_ _)); refine blk_put (cs := #[.slice none 0 0]) ?_ 0 _ rfl; (with_reducible repeat (first | refine blk_drewN ?_ _ | refine blk_drew ?_ | refine blk_alloc ?_ _)); exact BK263.out) Try.underlying31 rfl (by kernel_rfl)) rfl ?_
         exact ⟨_, by first | rfl | (simp [errW_none, errW_some] <;> rfl) | (simp [*, errW_none, errW_some] <;> rfl), by first | exact Kd.R_nil _ _ _ _ _ | exact Kd.N_nil _ _ _ _ _ | exact Kd.V_nil _ _ _ _ _ | exact Kd.Q_nil _ _ _ _ _ | exact Kd.S_nil _ _ _ _ _, zb5 HB.out GE261.out GE262.out GE263.out GE267.out GE269.out⟩
       ·rw [if_neg c114] at H
        have c114b0 : (a1_0 == 2) = false := beq_eq_false_iff_ne.mpr c114
        have c114b1 : (a1_0 != 2) = true := bne_iff_ne.mpr c114
        by_cases c159 : a1_0 = 3
        ·rw [if_pos c159] at H
         have c159b0 : (a1_0 == 3) = true := beq_iff_eq.mpr c159
         have c159b1 : (a1_0 != 3) = false := bne_eq_false_iff_eq.mpr c159
         clear c159
         have HC160 := Aside0.mk H
         clear H
         go_upto_region 17 with (first | ((with_reducible refine gate_dst (N := 8) rfl ?_); refine box_event ?hg (N := 8) ?hd (cs := #[.slice none 0 0]) (t := 31) ?hr ?_; (case hd => rfl); (case hg => rfl); (case hr => first | (go_simp; done) | (go_simp; rfl)); intro gb269 hg w161 hbox hb; have BK269 := am (hbox); have GW269 := zge hg (zb4 HB.out GE261.out GE262.out GE263.out GE267.out); have GE269 := zge hg (zb4 HB.out GE261.out GE262.out GE263.out GE267.out); have NB261_269 := znl hg (kx BK261.out); have NB269_261 := zng hg (kx BK261.out); have NB262_269 := znl hg (kx BK262.out); have NB269_262 := zng hg (kx BK262.out); have NB263_269 := znl hg (kx BK263.out); have NB269_263 := zng hg (kx BK263.out); have NB267_269 := znl hg (kx BK267.out); have NB269_267 := zng hg (kx BK267.out); replace BK261 := am (bb hb (kx BK261.out)); replace BK262 := am (bb hb (kx BK262.out)); replace BK263 := am (bb hb (kx BK263.out)); replace BK267 := am (bb hb (kx BK267.out)); replace HB := am (below_step (zb4 HB.out GE261.out GE262.out GE263.out GE267.out) hb); clear hb hbox hg; have hnb162 := NB269_261.out; have hnc162 := NB261_269.out; have hnb163 := NB269_262.out; have hnc163 := NB262_269.out; have hnb164 := NB269_263.out; have hnc164 := NB263_269.out; have hnb165 := NB269_267.out; have hnc165 := NB267_269.out; obtain ⟨hcz166_0, hfz166_0⟩ := zc1 BK269.out; have hnb167 := NB262_261.out; have hnc167 := NB261_262.out; have hnb168 := NB262_263.out; have hnc168 := NB263_262.out; have hnb169 := NB262_267.out; have hnc169 := NB267_262.out; obtain ⟨hcz170_0, hcz170_1, hcz170_2, hcz170_3, hfz170_0, hfz170_1, hfz170_2, hfz170_3⟩ := zc4 BK262.out))
         (try simp only [Act.put, List.setIfInBounds_toArray, List.set_cons_zero, List.set_cons_succ])
         go_cut [82] (fun v82 wc => ∃ (kq : Nat) (x82_159 : Bool), v82 = .bool x82_159 ∧ Aside0 (impl_DoAct.j2 kq x82_159 l0_0 a1_0 a1_1 a1_2 a1_3 x268000_48 x268001_48 x268002_48 = some (r1, r2)) ∧ Aside0 (kq ≤ kj48) ∧ Aside0 (wc.heap[gb261]? = some (.cells #[(.slice A0_0 l0_0.length c0_0)] 31 (0, 0))) ∧ Aside0 (wc.heap[gb262]? = some (.cells #[.int .i64 a1_0, .string a1_1, .string a1_2, .string a1_3] 35 (0, 0))) ∧ Aside0 (wc.heap[gb263]? = some (.cells #[(.slice none 0 0)] 31 (0, 0))) ∧ Aside0 (wc.heap[gb267]? = some (.cells #[.string x268000_48, .string x268001_48, .int .i64 x268002_48] 66 (0, 0))) ∧ Aside0 (wc.heap[gb269]? = some (.cells #[(.slice none 0 0)] 31 (0, 0))) ∧ Aside0 (Below w.heap.size w wc))
         case first =>
          have H := HC160.out
          clear HC160
          by_cases c171 : x268002_48 = (x268001_48.size : Int)
          ·rw [if_pos c171] at H
           have c171b0 : (x268002_48 == (x268001_48.size : Int)) = true := beq_iff_eq.mpr c171
           have c171b1 : (x268002_48 != (x268001_48.size : Int)) = false := bne_eq_false_iff_eq.mpr c171
           clear c171
           (first | rw [c171b0] | (simp only [i64_w, i32_w]; rw [c171b0]) | skip)
           have H' := Aside0.mk H
           clear H
           have hnb172 := NB267_261.out
           have hnc172 := NB261_267.out
           have hnb173 := NB267_262.out
           have hnc173 := NB262_267.out
           have hnb174 := NB267_263.out
           have hnc174 := NB263_267.out
           have hnb175 := NB267_269.out
           have hnc175 := NB269_267.out
           obtain ⟨hcz176_0, hcz176_1, hcz176_2, hfz176_0, hfz176_1, hfz176_2⟩ := zc3 BK267.out
           have hnb177 := NB262_261.out
           have hnc177 := NB261_262.out
           have hnb178 := NB262_263.out
           have hnc178 := NB263_262.out
           have hnb179 := NB262_269.out
           have hnc179 := NB269_262.out
           obtain ⟨hcz180_0, hcz180_1, hcz180_2, hcz180_3, hfz180_0, hfz180_1, hfz180_2, hfz180_3⟩ := zc4 BK262.out
           go_wp2
           go_meet
           case rel => exact ⟨_, ((a1_3.toList == a1_1.toList)), (by first | rfl | (simp; done) | (simp [*]; done)), H', ⟨by have := HJ3.out; have := HJ48.out; first | omega | exact Nat.le_refl _⟩, ⟨zf1 BK261.out NB261_269.out⟩, ⟨zf1 BK262.out NB262_269.out⟩, ⟨zf1 BK263.out NB263_269.out⟩, ⟨zf1 BK267.out NB267_269.out⟩, ⟨by (with_reducible repeat (first | refine blk_drewN ?_ _ | refine blk_drew ?_ | refine blk_alloc ?_ _)); refine blk_put (cs := #[.slice none 0 0]) ?_ 0 _ rfl; (with_reducible repeat (first | refine blk_drewN ?_ _ | refine blk_drew ?_ | refine blk_alloc ?_ _)); exact BK269.out⟩, ⟨zb5 HB.out GE261.out GE262.out GE263.out GE267.out GE269.out⟩⟩
          ·rw [if_neg c171] at H
           have c171b0 : (x268002_48 == (x268001_48.size : Int)) = false := beq_eq_false_iff_ne.mpr c171
           have c171b1 : (x268002_48 != (x268001_48.size : Int)) = true := bne_iff_ne.mpr c171
           (first | rw [c171b0] | (simp only [i64_w, i32_w]; rw [c171b0]) | skip)
           have H' := Aside0.mk H
           clear H
           have hnb181 := NB267_261.out
           have hnc181 := NB261_267.out
           have hnb182 := NB267_262.out
           have hnc182 := NB262_267.out
           have hnb183 := NB267_263.out
           have hnc183 := NB263_267.out
           have hnb184 := NB267_269.out
           have hnc184 := NB269_267.out
           obtain ⟨hcz185_0, hcz185_1, hcz185_2, hfz185_0, hfz185_1, hfz185_2⟩ := zc3 BK267.out
           go_wp2
           go_meet
           case rel => exact ⟨_, (true), (by first | rfl | (simp; done) | (simp [*]; done)), H', ⟨by have := HJ3.out; have := HJ48.out; first | omega | exact Nat.le_refl _⟩, ⟨zf1 BK261.out NB261_269.out⟩, ⟨zf1 BK262.out NB262_269.out⟩, ⟨zf1 BK263.out NB263_269.out⟩, ⟨zf1 BK267.out NB267_269.out⟩, ⟨by (with_reducible repeat (first | refine blk_drewN ?_ _ | refine blk_drew ?_ | refine blk_alloc ?_ _)); refine blk_put (cs := #[.slice none 0 0]) ?_ 0 _ rfl; (with_reducible repeat (first | refine blk_drewN ?_ _ | refine blk_drew ?_ | refine blk_alloc ?_ _)); exact BK269.out⟩, ⟨zb5 HB.out GE261.out GE262.out GE263.out GE267.out GE269.out⟩⟩
         case rest =>
          clear HC160
          try clear c1
          try clear c2
          try clear p2
          try clear q2
          try clear hx2
          try clear c3
          try clear c4
          try clear c5
          try clear c6
          try clear c7
          try clear c8
          try clear c9
          try clear c10
          try clear c11
          try clear c12
          try clear c13
          try clear c14
          try clear c15
          try clear c16
          try clear c17
          try clear c18
          try clear c18b0
          try clear c19
          try clear c20
          try clear c23
          try clear p26
          try clear q26
          try clear hx26
          try clear c27
          try clear c28
          try clear c31
          try clear c34
          try clear c35
          try clear c38
          try clear c39
          try clear c41
          try clear c42
          try clear c45
          try clear c46
          try clear c47
          try clear c50
          try clear c51
          try clear c54
          try clear c55
          try clear c56
          try clear c58
          try clear c58b0
          try clear c59
          try clear c59b0
          try clear c60
          try clear c60b0
          try clear c60b1
          try clear c61
          try clear c62
          try clear c63
          try clear c65
          try clear c66
          try clear c68
          try clear c68b0
          try clear c68b1
          try clear c69
          try clear c69b0
          try clear c69b1
          try clear c69b2
          try clear c72
          try clear c74
          try clear c75
          try clear c76
          try clear c77
          try clear c79
          try clear c80
          try clear c81
          try clear c83
          try clear c84
          try clear c86
          try clear c95
          try clear c96
          try clear c97
          try clear c98
          try clear c100
          try clear c101
          try clear c102
          try clear c104
          try clear c105
          try clear c107
          try clear c114
          try clear c114b0
          try clear c114b1
          try clear c117
          try clear c119
          try clear c120
          try clear c121
          try clear c122
          try clear c124
          try clear c125
          try clear c126
          try clear c128
          try clear c129
          try clear c131
          try clear c140
          try clear c141
          try clear c142
          try clear c143
          try clear c145
          try clear c146
          try clear c147
          try clear c149
          try clear c150
          try clear c152
          try clear c159
          try clear c159b0
          try clear c159b1
          try clear c162
          try clear c163
          try clear c164
          try clear c165
          try clear c167
          try clear c168
          try clear c169
          try clear c171
          try clear c171b0
          try clear c171b1
          try clear c172
          try clear c173
          try clear c174
          try clear c175
          try clear c177
          try clear c178
          try clear c179
          try clear c181
          try clear c182
          try clear c183
          try clear c184
          try clear hcz103_0
          try clear hcz103_1
          try clear hcz103_2
          try clear hcz103_3
          try clear hcz106_0
          try clear hcz106_1
          try clear hcz106_2
          try clear hcz108_0
          try clear hcz10_0
          try clear hcz111_0
          try clear hcz113_0
          try clear hcz123_0
          try clear hcz127_0
          try clear hcz127_1
          try clear hcz127_2
          try clear hcz127_3
          try clear hcz12_0
          try clear hcz12_1
          try clear hcz12_2
          try clear hcz12_3
          try clear hcz130_0
          try clear hcz130_1
          try clear hcz130_2
          try clear hcz132_0
          try clear hcz135_0
          try clear hcz137_0
          try clear hcz138_0
          try clear hcz144_0
          try clear hcz148_0
          try clear hcz148_1
          try clear hcz148_2
          try clear hcz148_3
          try clear hcz151_0
          try clear hcz151_1
          try clear hcz151_2
          try clear hcz153_0
          try clear hcz156_0
          try clear hcz158_0
          try clear hcz166_0
          try clear hcz170_0
          try clear hcz170_1
          try clear hcz170_2
          try clear hcz170_3
          try clear hcz176_0
          try clear hcz176_1
          try clear hcz176_2
          try clear hcz180_0
          try clear hcz180_1
          try clear hcz180_2
          try clear hcz180_3
          try clear hcz185_0
          try clear hcz185_1
          try clear hcz185_2
          try clear hcz21_0
          try clear hcz24_0
          try clear hcz24_1
          try clear hcz24_2
          try clear hcz24_3
          try clear hcz26_0
          try clear hcz26_1
          try clear hcz26_2
          try clear hcz26_3
          try clear hcz29_0
          try clear hcz32_0
          try clear hcz32_1
          try clear hcz32_2
          try clear hcz32_3
          try clear hcz36_0
          try clear hcz39_0
          try clear hcz39_1
          try clear hcz39_2
          try clear hcz39_3
          try clear hcz43_0
          try clear hcz48_0
          try clear hcz52_0
          try clear hcz52_1
          try clear hcz52_2
          try clear hcz52_3
          try clear hcz57_0
          try clear hcz57_1
          try clear hcz57_2
          try clear hcz64_0
          try clear hcz67_0
          try clear hcz67_1
          try clear hcz67_2
          try clear hcz78_0
          try clear hcz82_0
          try clear hcz82_1
          try clear hcz82_2
          try clear hcz82_3
          try clear hcz85_0
          try clear hcz85_1
          try clear hcz85_2
          try clear hcz87_0
          try clear hcz90_0
          try clear hcz92_0
          try clear hcz93_0
          try clear hcz99_0
          try clear hfz103_0
          try clear hfz103_1
          try clear hfz103_2
          try clear hfz103_3
          try clear hfz106_0
          try clear hfz106_1
          try clear hfz106_2
          try clear hfz108_0
          try clear hfz10_0
          try clear hfz111_0
          try clear hfz113_0
          try clear hfz123_0
          try clear hfz127_0
          try clear hfz127_1
          try clear hfz127_2
          try clear hfz127_3
          try clear hfz12_0
          try clear hfz12_1
          try clear hfz12_2
          try clear hfz12_3
          try clear hfz130_0
          try clear hfz130_1
          try clear hfz130_2
          try clear hfz132_0
          try clear hfz135_0
          try clear hfz137_0
          try clear hfz138_0
          try clear hfz144_0
          try clear hfz148_0
          try clear hfz148_1
          try clear hfz148_2
          try clear hfz148_3
          try clear hfz151_0
          try clear hfz151_1
          try clear hfz151_2
          try clear hfz153_0
          try clear hfz156_0
          try clear hfz158_0
          try clear hfz166_0
          try clear hfz170_0
          try clear hfz170_1
          try clear hfz170_2
          try clear hfz170_3
          try clear hfz176_0
          try clear hfz176_1
          try clear hfz176_2
          try clear hfz180_0
          try clear hfz180_1
          try clear hfz180_2
          try clear hfz180_3
          try clear hfz185_0
          try clear hfz185_1
          try clear hfz185_2
          try clear hfz21_0
          try clear hfz24_0
          try clear hfz24_1
          try clear hfz24_2
          try clear hfz24_3
          try clear hfz26_0
          try clear hfz26_1
          try clear hfz26_2
          try clear hfz26_3
          try clear hfz29_0
          try clear hfz32_0
          try clear hfz32_1
          try clear hfz32_2
          try clear hfz32_3
          try clear hfz36_0
          try clear hfz39_0
          try clear hfz39_1
          try clear hfz39_2
          try clear hfz39_3
          try clear hfz43_0
          try clear hfz48_0
          try clear hfz52_0
          try clear hfz52_1
          try clear hfz52_2
          try clear hfz52_3
          try clear hfz57_0
          try clear hfz57_1
          try clear hfz57_2
          try clear hfz64_0
          try clear hfz67_0
          try clear hfz67_1
          try clear hfz67_2
          try clear hfz78_0
          try clear hfz82_0
          try clear hfz82_1
          try clear hfz82_2
          try clear hfz82_3
          try clear hfz85_0
          try clear hfz85_1
          try clear hfz85_2
          try clear hfz87_0
          try clear hfz90_0
          try clear hfz92_0
          try clear hfz93_0
          try clear hfz99_0
          try clear hx268_0
          try clear hx268_1
          try clear hx268_2
          try clear p2
          try clear p26
          try clear p268
          try clear q2
          try clear q26
          try clear q268
          obtain ⟨kq, x82_159, rfl, HA, HJ159, BK261, BK262, BK263, BK267, BK269, HB⟩ := hcut
          cases kq with
          | zero => exact absurd HA.out (by simp [impl_DoAct.j2])
          | succ kj159 =>
           have H := HA.out
           clear HA
           simp only [impl_DoAct.j2] at H
           by_cases c186 : x82_159 = true
           ·subst c186
            have H1 : (some (([] : List (S66)), false)) = some (r1, r2) := by rw [if_pos rfl] at H; exact H
            clear H
            have H := H1
            clear H1
            simp only [Option.some.injEq, Prod.mk.injEq] at H
            obtain ⟨rfl, rfl⟩ := H
            have hnb187 := NB263_261.out
            have hnc187 := NB261_263.out
            have hnb188 := NB263_262.out
            have hnc188 := NB262_263.out
            have hnb189 := NB263_267.out
            have hnc189 := NB267_263.out
            have hnb190 := NB263_269.out
            have hnc190 := NB269_263.out
            obtain ⟨hcz191_0, hfz191_0⟩ := zc1 BK263.out
            go_wp2
            refine bodyPost_ret (results_ct rfl _ _ gb263 31 #[.slice none 0 0] (0, 0) _ rfl (by (with_reducible repeat (first | refine blk_drewN ?_ _ | refine blk_drew ?_ | refine blk_alloc ?_ _)); refine blk_put (cs := #[.slice none 0 0]) ?_ 0 _ rfl; (with_reducible repeat (first | refine blk_drewN ?_ _ | refine blk_drew ?_ | refine blk_alloc ?_ _)); exact BK263.out) Try.underlying31 rfl (by kernel_rfl)) rfl ?_
            exact ⟨_, by first | rfl | (simp [errW_none, errW_some] <;> rfl) | (simp [*, errW_none, errW_some] <;> rfl), by first | exact Kd.R_nil _ _ _ _ _ | exact Kd.N_nil _ _ _ _ _ | exact Kd.V_nil _ _ _ _ _ | exact Kd.Q_nil _ _ _ _ _ | exact Kd.S_nil _ _ _ _ _, zb5 HB.out GE261.out GE262.out GE263.out GE267.out GE269.out⟩
           ·replace c186 := Bool.eq_false_iff.mpr c186
            subst c186
            have H1 : ((impl_withoutFile.f l0_0 a1_1).bind fun t278 => ((impl_withFile.f t278 a1_3 x268001_48 x268002_48).bind fun t281 => ((impl_DiskOk.f kj159 t281).bind fun t284 => (if t284 = true then (some (t281, true)) else (some (([] : List (S66)), false)))))) = some (r1, r2) := by rw [if_neg (show ¬ (false = true) by decide)] at H; exact H
            clear H
            have H := H1
            clear H1
            replace H := Option.bind_eq_some_iff.mp H
            obtain ⟨t278, A1920, H⟩ := H
            try dsimp only at H
            have A192 := Aside0.mk A1920
            clear A1920
            replace H := Option.bind_eq_some_iff.mp H
            obtain ⟨t281, A1930, H⟩ := H
            try dsimp only at H
            have A193 := Aside0.mk A1930
            clear A1930
            replace H := Option.bind_eq_some_iff.mp H
            obtain ⟨t284, A1940, H⟩ := H
            try dsimp only at H
            have A194 := Aside0.mk A1940
            clear A1940
            by_cases c195 : t284 = true
            ·subst c195
             have H1 : (some (t281, true)) = some (r1, r2) := by rw [if_pos rfl] at H; exact H
             clear H
             have H := H1
             clear H1
             simp only [Option.some.injEq, Prod.mk.injEq] at H
             obtain ⟨rfl, rfl⟩ := H
             have hnb196 := NB262_261.out
             have hnc196 := NB261_262.out
             have hnb197 := NB262_263.out
             have hnc197 := NB263_262.out
             have hnb198 := NB262_267.out
             have hnc198 := NB267_262.out
             have hnb199 := NB262_269.out
             have hnc199 := NB269_262.out
             obtain ⟨hcz200_0, hcz200_1, hcz200_2, hcz200_3, hfz200_0, hfz200_1, hfz200_2, hfz200_3⟩ := zc4 BK262.out
             have hnb201 := NB267_261.out
             have hnc201 := NB261_267.out
             have hnb202 := NB267_263.out
             have hnc202 := NB263_267.out
             have hnb203 := NB267_269.out
             have hnc203 := NB269_267.out
             obtain ⟨hcz204_0, hcz204_1, hcz204_2, hfz204_0, hfz204_1, hfz204_2⟩ := zc3 BK267.out
             try go_wp2
             have n0_ : Aside0 ((wc.setCell ⟨gb267, 0, none⟩ (.string a1_3)).heap[gb261]? = some (.cells #[.slice A0_0 l0_0.length c0_0] 31 (0, 0))) := ⟨zf1 BK261.out NB261_267.out⟩
             have n1_ : Aside0 ((wc.setCell ⟨gb267, 0, none⟩ (.string a1_3)).heap[gb262]? = some (.cells #[.int .i64 a1_0, .string a1_1, .string a1_2, .string a1_3] 35 (0, 0))) := ⟨zf1 BK262.out NB262_267.out⟩
             have n2_ : Aside0 ((wc.setCell ⟨gb267, 0, none⟩ (.string a1_3)).heap[gb263]? = some (.cells #[.slice none 0 0] 31 (0, 0))) := ⟨zf1 BK263.out NB263_267.out⟩
             have n3_ : Aside0 ((wc.setCell ⟨gb267, 0, none⟩ (.string a1_3)).heap[gb267]? = some (.cells #[.string a1_3, .string x268001_48, .int .i64 x268002_48] 66 (0, 0))) := ⟨by (with_reducible repeat (first | refine blk_drewN ?_ _ | refine blk_drew ?_ | refine blk_alloc ?_ _)); refine blk_put (cs := #[.string x268000_48, .string x268001_48, .int .i64 x268002_48]) ?_ 0 _ rfl; (with_reducible repeat (first | refine blk_drewN ?_ _ | refine blk_drew ?_ | refine blk_alloc ?_ _)); exact BK267.out⟩
             have n4_ : Aside0 ((wc.setCell ⟨gb267, 0, none⟩ (.string a1_3)).heap[gb269]? = some (.cells #[.slice none 0 0] 31 (0, 0))) := ⟨zf1 BK269.out NB269_267.out⟩
             have n5_ : Aside0 (Below w.heap.size w (wc.setCell ⟨gb267, 0, none⟩ (.string a1_3))) := ⟨zb5 HB.out GE261.out GE262.out GE263.out GE267.out GE269.out⟩
             try clear BK261
             try clear BK262
             try clear BK263
             try clear BK267
             try clear BK269
             try clear HB
             generalize (wc.setCell ⟨gb267, 0, none⟩ (.string a1_3)) = w205 at n0_ n1_ n2_ n3_ n4_ n5_ ⊢
             have BK261 := n0_
             have BK262 := n1_
             have BK263 := n2_
             have BK267 := n3_
             have BK269 := n4_
             have HB := n5_
             clear n0_ n1_ n2_ n3_ n4_ n5_
             replace BK261 := am (blk_drew BK261.out)
             replace BK262 := am (blk_drew BK262.out)
             replace BK263 := am (blk_drew BK263.out)
             replace BK267 := am (blk_drew BK267.out)
             replace BK269 := am (blk_drew BK269.out)
             replace HB := am (below_drew1 HB.out)
             refine start_ (n := 7) (S := fun w' => w'.cell? ⟨gb261, 0, none⟩ = some (.slice A0_0 l0_0.length c0_0) ∧ w'.cell? ⟨gb262, 0, none⟩ = some (.int .i64 a1_0) ∧ w'.cell? ⟨gb262, 1, none⟩ = some (.string a1_1) ∧ w'.cell? ⟨gb262, 2, none⟩ = some (.string a1_2) ∧ w'.cell? ⟨gb262, 3, none⟩ = some (.string a1_3) ∧ w'.cell? ⟨gb267, 0, none⟩ = some (.string a1_3) ∧ w'.cell? ⟨gb267, 1, none⟩ = some (.string x268001_48) ∧ w'.cell? ⟨gb267, 2, none⟩ = some (.int .i64 x268002_48)) (ds := []) #[false, false, false, false, false, false, false] (by kernel_rfl) rfl rfl ⟨ct BK261.out 0, ct BK262.out 0, ct BK262.out 1, ct BK262.out 2, ct BK262.out 3, ct BK267.out 0, ct BK267.out 1, ct BK267.out 2⟩ (fun hHeld => ?_)
             generalize w205.drew = w206 at BK261 BK262 BK263 BK267 BK269 HB hHeld ⊢
             refine pure_ (i := 1) (N := some 88) (v := ?_) (a' := ?_) #[false, true, false, false, false, false, false] rfl rfl (by kernel_rfl) (fun _ _ _ h => h) (Or.inl ⟨by rfl, ?_⟩) ?_ ?_
             rotate_left
             ·intro w'
              go_simp
              with_reducible rfl
             rotate_left
             ·simp only [Act.put, List.setIfInBounds_toArray, List.set_cons_zero, List.set_cons_succ, i64_w, i32_w]
              rfl
             refine take_ (i := 0) (N := some 87) (v := ?_) (a' := ?_) #[true, true, false, false, false, false, false] rfl rfl (by kernel_rfl) (fun _ _ _ h => h) (Or.inl ⟨by rfl, ?_⟩) hHeld ?_ ?_
             rotate_left
             ·rintro w' ⟨s0, s1, s2, s3, s4, s5, s6, s7⟩
              go_simp
              with_reducible rfl
             rotate_left
             ·simp only [Act.put, List.setIfInBounds_toArray, List.set_cons_zero, List.set_cons_succ, i64_w, i32_w]
              rfl
             refine take_ (i := 2) (N := some 89) (v := ?_) (a' := ?_) #[true, true, true, false, false, false, false] rfl rfl (by kernel_rfl) (fun _ _ _ h => h) (Or.inl ⟨by rfl, ?_⟩) hHeld ?_ ?_
             rotate_left
             ·rintro w' ⟨s0, s1, s2, s3, s4, s5, s6, s7⟩
              go_simp
              with_reducible rfl
             rotate_left
             ·simp only [Act.put, List.setIfInBounds_toArray, List.set_cons_zero, List.set_cons_succ, i64_w, i32_w]
              rfl
             refine take_ (i := 4) (N := some 91) (v := ?_) (a' := ?_) #[true, true, true, false, true, false, false] rfl rfl (by kernel_rfl) (fun _ _ _ h => h) (Or.inl ⟨by rfl, ?_⟩) hHeld ?_ ?_
             rotate_left
             ·rintro w' ⟨s0, s1, s2, s3, s4, s5, s6, s7⟩
              go_simp
              with_reducible rfl
             rotate_left
             ·simp only [Act.put, List.setIfInBounds_toArray, List.set_cons_zero, List.set_cons_succ, i64_w, i32_w]
              rfl
             refine one_ (i := 3) (N := some 90) #[true, true, true, true, true, false, false] rfl rfl (by kernel_rfl) (by decide) (fun K hK => ?_)
             refine goes_ Try.func42 (by kernel_rfl) rfl #[.agg #[.slice A0_0 l0_0.length c0_0], .string a1_1] (by rfl) rfl rfl zr ?_
             with_reducible refine (impl_withoutFile.calls _ _ l0_0 a1_1 t278 _ ?side1 ?side2 A192.out).mono ?_
             (case side1 => repeat (first | exact (Kd.C_below HR0_0.out HB.out) | (with_reducible refine Kd.C_alloc ?_ _) | (with_reducible refine Kd.C_drewN ?_ _) | (with_reducible refine Kd.C_drew ?_)))
             (case side2 => exact HC0_0.out)
             rintro e w207 ⟨v279, rfl, ho0, hb⟩
             refine ⟨_, rfl, ?_⟩
             have HO280 := am (Kd.R_lower (Kd.R_newB ho0 (g := gb267) (o := .cells #[.string a1_3, .string x268001_48, .int .i64 x268002_48] 66 (0, 0)) (kx BK267.out)) (below_size (zb5 HB.out GE261.out GE262.out GE263.out GE267.out GE269.out)))
             replace BK261 := am (bb hb (kx BK261.out))
             replace BK262 := am (bb hb (kx BK262.out))
             replace BK263 := am (bb hb (kx BK263.out))
             replace BK267 := am (bb hb (kx BK267.out))
             replace BK269 := am (bb hb (kx BK269.out))
             replace HB := am (below_step (zb5 HB.out GE261.out GE262.out GE263.out GE267.out GE269.out) hb)
             try clear hb
             try clear hb2
             try clear hk
             try clear hi
             try clear ho0
             obtain ⟨Ao208, co208, eo208⟩ := Kd.R_slice HO280.out
             (first | subst eo208 | (injection eo208 with f1_ f2_ f3_; have f4_ := f1_.symm; have f5_ := f3_.symm; clear f1_ f2_ f3_; subst f4_; subst f5_))
             refine hK.out _ _ ⟨ct BK261.out 0, ct BK262.out 0, ct BK262.out 1, ct BK262.out 2, ct BK262.out 3, ct BK267.out 0, ct BK267.out 1, ct BK267.out 2⟩ (fun hHeld => ?_)
             clear hK K
             refine norm_ (a' := ?_) ?_ ?_
             rotate_left
             ·show Act.put _ (some 90) _ = _
              simp only [Act.put, List.setIfInBounds_toArray, List.set_cons_zero, List.set_cons_succ, i64_w, i32_w]
              rfl
             refine one_ (i := 5) (N := some 92) #[true, true, true, true, true, true, false] rfl rfl (by kernel_rfl) (by decide) (fun K hK => ?_)
             refine goes_ Try.func41 (by kernel_rfl) rfl #[.agg #[.slice Ao208 t278.length co208], .agg #[.string a1_3, .string x268001_48, .int .i64 x268002_48]] (by rfl) rfl rfl zr ?_
             with_reducible refine (impl_withFile.calls _ _ t278 a1_3 x268001_48 x268002_48 t281 _ ?side1 ?side2 A193.out).mono ?_
             (case side1 => repeat (first | exact (Kd.R_reads' HO280.out).2.2 | (with_reducible refine Kd.C_alloc ?_ _) | (with_reducible refine Kd.C_drewN ?_ _) | (with_reducible refine Kd.C_drew ?_)))
             (case side2 => exact (Kd.R_reads' HO280.out).2.1)
             rintro e w209 ⟨v282, rfl, ho0, hb⟩
             refine ⟨_, rfl, ?_⟩
             have HO283 := am (Kd.R_lower (Kd.R_newB (Kd.R_new' ho0 (Kd.R_lt (rx HO280.out))) (g := gb267) (o := .cells #[.string a1_3, .string x268001_48, .int .i64 x268002_48] 66 (0, 0)) (kx BK267.out)) (below_size (zb5 HB.out GE261.out GE262.out GE263.out GE267.out GE269.out)))
             replace HO280 := am (Kd.R_elder' (rx HO280.out) (Kd.R_base ho0) hb)
             replace BK261 := am (bb hb (kx BK261.out))
             replace BK262 := am (bb hb (kx BK262.out))
             replace BK263 := am (bb hb (kx BK263.out))
             replace BK267 := am (bb hb (kx BK267.out))
             replace BK269 := am (bb hb (kx BK269.out))
             replace HB := am (below_step (zb5 HB.out GE261.out GE262.out GE263.out GE267.out GE269.out) hb)
             try clear hb
             try clear hb2
             try clear hk
             try clear hi
             try clear ho0
             obtain ⟨Ao210, co210, eo210⟩ := Kd.R_slice HO283.out
             (first | subst eo210 | (injection eo210 with f1_ f2_ f3_; have f4_ := f1_.symm; have f5_ := f3_.symm; clear f1_ f2_ f3_; subst f4_; subst f5_))
             refine hK.out _ _ ⟨ct BK261.out 0, ct BK262.out 0, ct BK262.out 1, ct BK262.out 2, ct BK262.out 3, ct BK267.out 0, ct BK267.out 1, ct BK267.out 2⟩ (fun hHeld => ?_)
             clear hK K
             refine norm_ (a' := ?_) ?_ ?_
             rotate_left
             ·show Act.put _ (some 92) _ = _
              simp only [Act.put, List.setIfInBounds_toArray, List.set_cons_zero, List.set_cons_succ, i64_w, i32_w]
              rfl
             refine one_ (i := 6) (N := none) #[true, true, true, true, true, true, true] rfl rfl (by kernel_rfl) (by decide) (fun K hK => ?_)
             have hs211 : w209.cell? ⟨gb269, 0, none⟩ = some (.slice none 0 0) := ct BK269.out 0
             have hfs211 := blk_frozen BK269.out 0
             have hns211_0 := NB261_269.out
             have hns211_1 := NB262_269.out
             have hns211_2 := NB263_269.out
             have hns211_3 := NB267_269.out
             have hms211_0 := NB269_261.out
             have hms211_1 := NB269_262.out
             have hms211_2 := NB269_263.out
             have hms211_3 := NB269_267.out
             refine skip_ (w1 := ?_) (by rfl) rfl ?_ ?_
             rotate_left
             ·go_simp
              rfl
             refine hK.out _ _ ⟨((cell_far (p := ⟨gb269, _, none⟩) NB261_269.out _).trans (hHeld.1)), ((cell_far (p := ⟨gb269, _, none⟩) NB262_269.out _).trans (hHeld.2.1)), ((cell_far (p := ⟨gb269, _, none⟩) NB262_269.out _).trans (hHeld.2.2.1)), ((cell_far (p := ⟨gb269, _, none⟩) NB262_269.out _).trans (hHeld.2.2.2.1)), ((cell_far (p := ⟨gb269, _, none⟩) NB262_269.out _).trans (hHeld.2.2.2.2.1)), ((cell_far (p := ⟨gb269, _, none⟩) NB267_269.out _).trans (hHeld.2.2.2.2.2.1)), ((cell_far (p := ⟨gb269, _, none⟩) NB267_269.out _).trans (hHeld.2.2.2.2.2.2.1)), ((cell_far (p := ⟨gb269, _, none⟩) NB267_269.out _).trans (hHeld.2.2.2.2.2.2.2))⟩ (fun hHeld => ?_)
             clear hK K
             refine done_ (by kernel_rfl) ?_
             have hnb212 := NB269_261.out
             have hnc212 := NB261_269.out
             have hnb213 := NB269_263.out
             have hnc213 := NB263_269.out
             obtain ⟨hcz214_0, hfz214_0⟩ := zc1 BK269.out
             try go_wp2_with (first | ((with_reducible refine gate_callee (f := 39) rfl ?_); refine goesL_ (some 94) rfl rfl Try.func39 (by kernel_rfl) rfl #[.agg #[.slice Ao210 t281.length co210]] rfl zr ?_; (with_reducible refine (impl_DiskOk.calls kj159 _ _ t281 true _ ?side1 ?side2 A194.out).mono ?_); (case side1 => refine (Kd.R_reads' (e := 66) (base := w.heap.size) (ok := fun k_ => ((True ∧ some k_ ≠ (.slice Ao208 t278.length co208 : Value).ownBlock) ∧ k_ ≠ gb267)) (n := t281.length) (c := co210) ?_).2.2; exact (rx ((Kd.R_mono (Kd.R_far (p := ⟨gb269, 0, none⟩) (Kd.R_types HO283.out BK269.out (by decide)) (fun _ hk => hk.2) (.slice Ao210 t281.length co210)) (fun _ h_ => h_.1))))); (case side2 => exact (Kd.R_reads' HO283.out).2.1); rintro e w215 ⟨rfl, hb⟩; refine ⟨_, rfl, ?_⟩; replace HO280 := am (Kd.R_below (rx ((Kd.R_mono (Kd.R_far (p := ⟨gb269, 0, none⟩) (Kd.R_types HO280.out BK269.out (by decide)) (fun _ hk => hk.2) (.slice Ao210 t281.length co210)) (fun _ h_ => h_.1)))) hb); replace HO283 := am (Kd.R_below (rx ((Kd.R_mono (Kd.R_far (p := ⟨gb269, 0, none⟩) (Kd.R_types HO283.out BK269.out (by decide)) (fun _ hk => hk.2) (.slice Ao210 t281.length co210)) (fun _ h_ => h_.1)))) hb); replace BK261 := am (bb hb (zf1 BK261.out NB261_269.out)); replace BK262 := am (bb hb (zf1 BK262.out NB262_269.out)); replace BK263 := am (bb hb (zf1 BK263.out NB263_269.out)); replace BK267 := am (bb hb (zf1 BK267.out NB267_269.out)); replace BK269 := am (blk_below (g := gb269) (o := .cells #[.slice Ao210 t281.length co210] 31 (0, 0)) (by (with_reducible repeat (first | refine blk_drewN ?_ _ | refine blk_drew ?_ | refine blk_alloc ?_ _)); refine blk_put (cs := #[.slice none 0 0]) ?_ 0 _ rfl; (with_reducible repeat (first | refine blk_drewN ?_ _ | refine blk_drew ?_ | refine blk_alloc ?_ _)); exact BK269.out) hb); replace HB := am (below_step (zb5 HB.out GE261.out GE262.out GE263.out GE267.out GE269.out) hb); (try clear hb); (try clear hb2); (try clear hk); (try clear hi); obtain ⟨hcz216_0, hfz216_0⟩ := zc1 BK269.out; have hnb217 := NB263_261.out; have hnc217 := NB261_263.out; obtain ⟨hcz218_0, hfz218_0⟩ := zc1 BK263.out))
             refine bodyPost_ret (results_ct rfl _ _ gb263 31 #[.slice Ao210 t281.length co210] (0, 0) _ rfl (by (with_reducible repeat (first | refine blk_drewN ?_ _ | refine blk_drew ?_ | refine blk_alloc ?_ _)); refine blk_put (cs := #[.slice none 0 0]) ?_ 0 _ rfl; (with_reducible repeat (first | refine blk_drewN ?_ _ | refine blk_drew ?_ | refine blk_alloc ?_ _)); exact BK263.out) Try.underlying31 rfl (by kernel_rfl)) rfl ?_
             exact ⟨_, by first | rfl | (simp [errW_none, errW_some] <;> rfl) | (simp [*, errW_none, errW_some] <;> rfl), rx (Kd.R_mono (Kd.R_far (p := ⟨gb263, 0, none⟩) (Kd.R_types HO283.out BK263.out (by decide)) (fun _ hk => hk.2) (.slice Ao210 t281.length co210)) (fun _ hk => trivial)), zb5 HB.out GE261.out GE262.out GE263.out GE267.out GE269.out⟩
            ·replace c195 := Bool.eq_false_iff.mpr c195
             subst c195
             have H1 : (some (([] : List (S66)), false)) = some (r1, r2) := by rw [if_neg (show ¬ (false = true) by decide)] at H; exact H
             clear H
             have H := H1
             clear H1
             simp only [Option.some.injEq, Prod.mk.injEq] at H
             obtain ⟨rfl, rfl⟩ := H
             have hnb219 := NB262_261.out
             have hnc219 := NB261_262.out
             have hnb220 := NB262_263.out
             have hnc220 := NB263_262.out
             have hnb221 := NB262_267.out
             have hnc221 := NB267_262.out
             have hnb222 := NB262_269.out
             have hnc222 := NB269_262.out
             obtain ⟨hcz223_0, hcz223_1, hcz223_2, hcz223_3, hfz223_0, hfz223_1, hfz223_2, hfz223_3⟩ := zc4 BK262.out
             have hnb224 := NB267_261.out
             have hnc224 := NB261_267.out
             have hnb225 := NB267_263.out
             have hnc225 := NB263_267.out
             have hnb226 := NB267_269.out
             have hnc226 := NB269_267.out
             obtain ⟨hcz227_0, hcz227_1, hcz227_2, hfz227_0, hfz227_1, hfz227_2⟩ := zc3 BK267.out
             try go_wp2
             have n0_ : Aside0 ((wc.setCell ⟨gb267, 0, none⟩ (.string a1_3)).heap[gb261]? = some (.cells #[.slice A0_0 l0_0.length c0_0] 31 (0, 0))) := ⟨zf1 BK261.out NB261_267.out⟩
             have n1_ : Aside0 ((wc.setCell ⟨gb267, 0, none⟩ (.string a1_3)).heap[gb262]? = some (.cells #[.int .i64 a1_0, .string a1_1, .string a1_2, .string a1_3] 35 (0, 0))) := ⟨zf1 BK262.out NB262_267.out⟩
             have n2_ : Aside0 ((wc.setCell ⟨gb267, 0, none⟩ (.string a1_3)).heap[gb263]? = some (.cells #[.slice none 0 0] 31 (0, 0))) := ⟨zf1 BK263.out NB263_267.out⟩
             have n3_ : Aside0 ((wc.setCell ⟨gb267, 0, none⟩ (.string a1_3)).heap[gb267]? = some (.cells #[.string a1_3, .string x268001_48, .int .i64 x268002_48] 66 (0, 0))) := ⟨by (with_reducible repeat (first | refine blk_drewN ?_ _ | refine blk_drew ?_ | refine blk_alloc ?_ _)); refine blk_put (cs := #[.string x268000_48, .string x268001_48, .int .i64 x268002_48]) ?_ 0 _ rfl; (with_reducible repeat (first | refine blk_drewN ?_ _ | refine blk_drew ?_ | refine blk_alloc ?_ _)); exact BK267.out⟩
             have n4_ : Aside0 ((wc.setCell ⟨gb267, 0, none⟩ (.string a1_3)).heap[gb269]? = some (.cells #[.slice none 0 0] 31 (0, 0))) := ⟨zf1 BK269.out NB269_267.out⟩
             have n5_ : Aside0 (Below w.heap.size w (wc.setCell ⟨gb267, 0, none⟩ (.string a1_3))) := ⟨zb5 HB.out GE261.out GE262.out GE263.out GE267.out GE269.out⟩
             try clear BK261
             try clear BK262
             try clear BK263
             try clear BK267
             try clear BK269
             try clear HB
             generalize (wc.setCell ⟨gb267, 0, none⟩ (.string a1_3)) = w228 at n0_ n1_ n2_ n3_ n4_ n5_ ⊢
             have BK261 := n0_
             have BK262 := n1_
             have BK263 := n2_
             have BK267 := n3_
             have BK269 := n4_
             have HB := n5_
             clear n0_ n1_ n2_ n3_ n4_ n5_
             replace BK261 := am (blk_drew BK261.out)
             replace BK262 := am (blk_drew BK262.out)
             replace BK263 := am (blk_drew BK263.out)
             replace BK267 := am (blk_drew BK267.out)
             replace BK269 := am (blk_drew BK269.out)
             replace HB := am (below_drew1 HB.out)
             refine start_ (n := 7) (S := fun w' => w'.cell? ⟨gb261, 0, none⟩ = some (.slice A0_0 l0_0.length c0_0) ∧ w'.cell? ⟨gb262, 0, none⟩ = some (.int .i64 a1_0) ∧ w'.cell? ⟨gb262, 1, none⟩ = some (.string a1_1) ∧ w'.cell? ⟨gb262, 2, none⟩ = some (.string a1_2) ∧ w'.cell? ⟨gb262, 3, none⟩ = some (.string a1_3) ∧ w'.cell? ⟨gb267, 0, none⟩ = some (.string a1_3) ∧ w'.cell? ⟨gb267, 1, none⟩ = some (.string x268001_48) ∧ w'.cell? ⟨gb267, 2, none⟩ = some (.int .i64 x268002_48)) (ds := []) #[false, false, false, false, false, false, false] (by kernel_rfl) rfl rfl ⟨ct BK261.out 0, ct BK262.out 0, ct BK262.out 1, ct BK262.out 2, ct BK262.out 3, ct BK267.out 0, ct BK267.out 1, ct BK267.out 2⟩ (fun hHeld => ?_)
             generalize w228.drew = w229 at BK261 BK262 BK263 BK267 BK269 HB hHeld ⊢
             refine pure_ (i := 1) (N := some 88) (v := ?_) (a' := ?_) #[false, true, false, false, false, false, false] rfl rfl (by kernel_rfl) (fun _ _ _ h => h) (Or.inl ⟨by rfl, ?_⟩) ?_ ?_
             rotate_left
             ·intro w'
              go_simp
              with_reducible rfl
             rotate_left
             ·simp only [Act.put, List.setIfInBounds_toArray, List.set_cons_zero, List.set_cons_succ, i64_w, i32_w]
              rfl
             refine take_ (i := 0) (N := some 87) (v := ?_) (a' := ?_) #[true, true, false, false, false, false, false] rfl rfl (by kernel_rfl) (fun _ _ _ h => h) (Or.inl ⟨by rfl, ?_⟩) hHeld ?_ ?_
             rotate_left
             ·rintro w' ⟨s0, s1, s2, s3, s4, s5, s6, s7⟩
              go_simp
              with_reducible rfl
             rotate_left
             ·simp only [Act.put, List.setIfInBounds_toArray, List.set_cons_zero, List.set_cons_succ, i64_w, i32_w]
              rfl
             refine take_ (i := 2) (N := some 89) (v := ?_) (a' := ?_) #[true, true, true, false, false, false, false] rfl rfl (by kernel_rfl) (fun _ _ _ h => h) (Or.inl ⟨by rfl, ?_⟩) hHeld ?_ ?_
             rotate_left
             ·rintro w' ⟨s0, s1, s2, s3, s4, s5, s6, s7⟩
              go_simp
              with_reducible rfl
             rotate_left
             ·simp only [Act.put, List.setIfInBounds_toArray, List.set_cons_zero, List.set_cons_succ, i64_w, i32_w]
              rfl
             refine take_ (i := 4) (N := some 91) (v := ?_) (a' := ?_) #[true, true, true, false, true, false, false] rfl rfl (by kernel_rfl) (fun _ _ _ h => h) (Or.inl ⟨by rfl, ?_⟩) hHeld ?_ ?_
             rotate_left
             ·rintro w' ⟨s0, s1, s2, s3, s4, s5, s6, s7⟩
              go_simp
              with_reducible rfl
             rotate_left
             ·simp only [Act.put, List.setIfInBounds_toArray, List.set_cons_zero, List.set_cons_succ, i64_w, i32_w]
              rfl
             refine one_ (i := 3) (N := some 90) #[true, true, true, true, true, false, false] rfl rfl (by kernel_rfl) (by decide) (fun K hK => ?_)
             refine goes_ Try.func42 (by kernel_rfl) rfl #[.agg #[.slice A0_0 l0_0.length c0_0], .string a1_1] (by rfl) rfl rfl zr ?_
             with_reducible refine (impl_withoutFile.calls _ _ l0_0 a1_1 t278 _ ?side1 ?side2 A192.out).mono ?_
             (case side1 => repeat (first | exact (Kd.C_below HR0_0.out HB.out) | (with_reducible refine Kd.C_alloc ?_ _) | (with_reducible refine Kd.C_drewN ?_ _) | (with_reducible refine Kd.C_drew ?_)))
             (case side2 => exact HC0_0.out)
             rintro e w230 ⟨v279, rfl, ho0, hb⟩
             refine ⟨_, rfl, ?_⟩
             have HO280 := am (Kd.R_lower (Kd.R_newB ho0 (g := gb267) (o := .cells #[.string a1_3, .string x268001_48, .int .i64 x268002_48] 66 (0, 0)) (kx BK267.out)) (below_size (zb5 HB.out GE261.out GE262.out GE263.out GE267.out GE269.out)))
             replace BK261 := am (bb hb (kx BK261.out))
             replace BK262 := am (bb hb (kx BK262.out))
             replace BK263 := am (bb hb (kx BK263.out))
             replace BK267 := am (bb hb (kx BK267.out))
             replace BK269 := am (bb hb (kx BK269.out))
             replace HB := am (below_step (zb5 HB.out GE261.out GE262.out GE263.out GE267.out GE269.out) hb)
             try clear hb
             try clear hb2
             try clear hk
             try clear hi
             try clear ho0
             obtain ⟨Ao231, co231, eo231⟩ := Kd.R_slice HO280.out
             (first | subst eo231 | (injection eo231 with f1_ f2_ f3_; have f4_ := f1_.symm; have f5_ := f3_.symm; clear f1_ f2_ f3_; subst f4_; subst f5_))
             refine hK.out _ _ ⟨ct BK261.out 0, ct BK262.out 0, ct BK262.out 1, ct BK262.out 2, ct BK262.out 3, ct BK267.out 0, ct BK267.out 1, ct BK267.out 2⟩ (fun hHeld => ?_)
             clear hK K
             refine norm_ (a' := ?_) ?_ ?_
             rotate_left
             ·show Act.put _ (some 90) _ = _
              simp only [Act.put, List.setIfInBounds_toArray, List.set_cons_zero, List.set_cons_succ, i64_w, i32_w]
              rfl
             refine one_ (i := 5) (N := some 92) #[true, true, true, true, true, true, false] rfl rfl (by kernel_rfl) (by decide) (fun K hK => ?_)
             refine goes_ Try.func41 (by kernel_rfl) rfl #[.agg #[.slice Ao231 t278.length co231], .agg #[.string a1_3, .string x268001_48, .int .i64 x268002_48]] (by rfl) rfl rfl zr ?_
             with_reducible refine (impl_withFile.calls _ _ t278 a1_3 x268001_48 x268002_48 t281 _ ?side1 ?side2 A193.out).mono ?_
             (case side1 => repeat (first | exact (Kd.R_reads' HO280.out).2.2 | (with_reducible refine Kd.C_alloc ?_ _) | (with_reducible refine Kd.C_drewN ?_ _) | (with_reducible refine Kd.C_drew ?_)))
             (case side2 => exact (Kd.R_reads' HO280.out).2.1)
             rintro e w232 ⟨v282, rfl, ho0, hb⟩
             refine ⟨_, rfl, ?_⟩
             have HO283 := am (Kd.R_lower (Kd.R_newB (Kd.R_new' ho0 (Kd.R_lt (rx HO280.out))) (g := gb267) (o := .cells #[.string a1_3, .string x268001_48, .int .i64 x268002_48] 66 (0, 0)) (kx BK267.out)) (below_size (zb5 HB.out GE261.out GE262.out GE263.out GE267.out GE269.out)))
             replace HO280 := am (Kd.R_elder' (rx HO280.out) (Kd.R_base ho0) hb)
             replace BK261 := am (bb hb (kx BK261.out))
             replace BK262 := am (bb hb (kx BK262.out))
             replace BK263 := am (bb hb (kx BK263.out))
             replace BK267 := am (bb hb (kx BK267.out))
             replace BK269 := am (bb hb (kx BK269.out))
             replace HB := am (below_step (zb5 HB.out GE261.out GE262.out GE263.out GE267.out GE269.out) hb)
             try clear hb
             try clear hb2
             try clear hk
             try clear hi
             try clear ho0
             obtain ⟨Ao233, co233, eo233⟩ := Kd.R_slice HO283.out
             (first | subst eo233 | (injection eo233 with f1_ f2_ f3_; have f4_ := f1_.symm; have f5_ := f3_.symm; clear f1_ f2_ f3_; subst f4_; subst f5_))
             refine hK.out _ _ ⟨ct BK261.out 0, ct BK262.out 0, ct BK262.out 1, ct BK262.out 2, ct BK262.out 3, ct BK267.out 0, ct BK267.out 1, ct BK267.out 2⟩ (fun hHeld => ?_)
             clear hK K
             refine norm_ (a' := ?_) ?_ ?_
             rotate_left
             ·show Act.put _ (some 92) _ = _
              simp only [Act.put, List.setIfInBounds_toArray, List.set_cons_zero, List.set_cons_succ, i64_w, i32_w]
              rfl
             refine one_ (i := 6) (N := none) #[true, true, true, true, true, true, true] rfl rfl (by kernel_rfl) (by decide) (fun K hK => ?_)
             have hs234 : w232.cell? ⟨gb269, 0, none⟩ = some (.slice none 0 0) := ct BK269.out 0
             have hfs234 := blk_frozen BK269.out 0
             have hns234_0 := NB261_269.out
             have hns234_1 := NB262_269.out
             have hns234_2 := NB263_269.out
             have hns234_3 := NB267_269.out
             have hms234_0 := NB269_261.out
             have hms234_1 := NB269_262.out
             have hms234_2 := NB269_263.out
             have hms234_3 := NB269_267.out
             refine skip_ (w1 := ?_) (by rfl) rfl ?_ ?_
             rotate_left
             ·go_simp
              rfl
             refine hK.out _ _ ⟨((cell_far (p := ⟨gb269, _, none⟩) NB261_269.out _).trans (hHeld.1)), ((cell_far (p := ⟨gb269, _, none⟩) NB262_269.out _).trans (hHeld.2.1)), ((cell_far (p := ⟨gb269, _, none⟩) NB262_269.out _).trans (hHeld.2.2.1)), ((cell_far (p := ⟨gb269, _, none⟩) NB262_269.out _).trans (hHeld.2.2.2.1)), ((cell_far (p := ⟨gb269, _, none⟩) NB262_269.out _).trans (hHeld.2.2.2.2.1)), ((cell_far (p := ⟨gb269, _, none⟩) NB267_269.out _).trans (hHeld.2.2.2.2.2.1)), ((cell_far (p := ⟨gb269, _, none⟩) NB267_269.out _).trans (hHeld.2.2.2.2.2.2.1)), ((cell_far (p := ⟨gb269, _, none⟩) NB267_269.out _).trans (hHeld.2.2.2.2.2.2.2))⟩ (fun hHeld => ?_)
             clear hK K
             refine done_ (by kernel_rfl) ?_
             have hnb235 := NB269_261.out
             have hnc235 := NB261_269.out
             have hnb236 := NB269_263.out
             have hnc236 := NB263_269.out
             obtain ⟨hcz237_0, hfz237_0⟩ := zc1 BK269.out
             try go_wp2_with (first | ((with_reducible refine gate_callee (f := 39) rfl ?_); refine goesL_ (some 94) rfl rfl Try.func39 (by kernel_rfl) rfl #[.agg #[.slice Ao233 t281.length co233]] rfl zr ?_; (with_reducible refine (impl_DiskOk.calls kj159 _ _ t281 false _ ?side1 ?side2 A194.out).mono ?_); (case side1 => refine (Kd.R_reads' (e := 66) (base := w.heap.size) (ok := fun k_ => ((True ∧ some k_ ≠ (.slice Ao231 t278.length co231 : Value).ownBlock) ∧ k_ ≠ gb267)) (n := t281.length) (c := co233) ?_).2.2; exact (rx ((Kd.R_mono (Kd.R_far (p := ⟨gb269, 0, none⟩) (Kd.R_types HO283.out BK269.out (by decide)) (fun _ hk => hk.2) (.slice Ao233 t281.length co233)) (fun _ h_ => h_.1))))); (case side2 => exact (Kd.R_reads' HO283.out).2.1); rintro e w238 ⟨rfl, hb⟩; refine ⟨_, rfl, ?_⟩; replace HO280 := am (Kd.R_below (rx ((Kd.R_mono (Kd.R_far (p := ⟨gb269, 0, none⟩) (Kd.R_types HO280.out BK269.out (by decide)) (fun _ hk => hk.2) (.slice Ao233 t281.length co233)) (fun _ h_ => h_.1)))) hb); replace HO283 := am (Kd.R_below (rx ((Kd.R_mono (Kd.R_far (p := ⟨gb269, 0, none⟩) (Kd.R_types HO283.out BK269.out (by decide)) (fun _ hk => hk.2) (.slice Ao233 t281.length co233)) (fun _ h_ => h_.1)))) hb); replace BK261 := am (bb hb (zf1 BK261.out NB261_269.out)); replace BK262 := am (bb hb (zf1 BK262.out NB262_269.out)); replace BK263 := am (bb hb (zf1 BK263.out NB263_269.out)); replace BK267 := am (bb hb (zf1 BK267.out NB267_269.out)); replace BK269 := am (blk_below (g := gb269) (o := .cells #[.slice Ao233 t281.length co233] 31 (0, 0)) (by (with_reducible repeat (first | refine blk_drewN ?_ _ | refine blk_drew ?_ | refine blk_alloc ?_ _)); refine blk_put (cs := #[.slice none 0 0]) ?_ 0 _ rfl; (with_reducible repeat (first | refine blk_drewN ?_ _ | refine blk_drew ?_ | refine blk_alloc ?_ _)); exact BK269.out) hb); replace HB := am (below_step (zb5 HB.out GE261.out GE262.out GE263.out GE267.out GE269.out) hb); (try clear hb); (try clear hb2); (try clear hk); (try clear hi); have hnb239 := NB263_261.out; have hnc239 := NB261_263.out; obtain ⟨hcz240_0, hfz240_0⟩ := zc1 BK263.out))
             refine bodyPost_ret (results_ct rfl _ _ gb263 31 #[.slice none 0 0] (0, 0) _ rfl (by (with_reducible repeat (first | refine blk_drewN ?_ _ | refine blk_drew ?_ | refine blk_alloc ?_ _)); refine blk_put (cs := #[.slice none 0 0]) ?_ 0 _ rfl; (with_reducible repeat (first | refine blk_drewN ?_ _ | refine blk_drew ?_ | refine blk_alloc ?_ _)); exact BK263.out) Try.underlying31 rfl (by kernel_rfl)) rfl ?_
             exact ⟨_, by first | rfl | (simp [errW_none, errW_some] <;> rfl) | (simp [*, errW_none, errW_some] <;> rfl), by first | exact Kd.R_nil _ _ _ _ _ | exact Kd.N_nil _ _ _ _ _ | exact Kd.V_nil _ _ _ _ _ | exact Kd.Q_nil _ _ _ _ _ | exact Kd.S_nil _ _ _ _ _, zb5 HB.out GE261.out GE262.out GE263.out GE267.out GE269.out⟩
        ·rw [if_neg c159] at H
         have c159b0 : (a1_0 == 3) = false := beq_eq_false_iff_ne.mpr c159
         have c159b1 : (a1_0 != 3) = true := bne_iff_ne.mpr c159
         replace H := Option.bind_eq_some_iff.mp H
         obtain ⟨t285, A2410, H⟩ := H
         try dsimp only at H
         have A241 := Aside0.mk A2410
         clear A2410
         replace H := Option.bind_eq_some_iff.mp H
         obtain ⟨t288, A2420, H⟩ := H
         try dsimp only at H
         have A242 := Aside0.mk A2420
         clear A2420
         by_cases c243 : t288 = true
         ·subst c243
          have H1 : (some (t285, true)) = some (r1, r2) := by rw [if_pos rfl] at H; exact H
          clear H
          have H := H1
          clear H1
          simp only [Option.some.injEq, Prod.mk.injEq] at H
          obtain ⟨rfl, rfl⟩ := H
          go_wp2_with (first | ((with_reducible refine gate_dst (N := 8) rfl ?_); refine box_event ?hg (N := 8) ?hd (cs := #[.slice none 0 0]) (t := 31) ?hr ?_; (case hd => rfl); (case hg => rfl); (case hr => first | (go_simp; done) | (go_simp; rfl)); intro gb269 hg w244 hbox hb; have BK269 := am (hbox); have GW269 := zge hg (zb4 HB.out GE261.out GE262.out GE263.out GE267.out); have GE269 := zge hg (zb4 HB.out GE261.out GE262.out GE263.out GE267.out); have NB261_269 := znl hg (kx BK261.out); have NB269_261 := zng hg (kx BK261.out); have NB262_269 := znl hg (kx BK262.out); have NB269_262 := zng hg (kx BK262.out); have NB263_269 := znl hg (kx BK263.out); have NB269_263 := zng hg (kx BK263.out); have NB267_269 := znl hg (kx BK267.out); have NB269_267 := zng hg (kx BK267.out); replace BK261 := am (bb hb (kx BK261.out)); replace BK262 := am (bb hb (kx BK262.out)); replace BK263 := am (bb hb (kx BK263.out)); replace BK267 := am (bb hb (kx BK267.out)); replace HB := am (below_step (zb4 HB.out GE261.out GE262.out GE263.out GE267.out) hb); clear hb hbox hg; have hnb245 := NB269_261.out; have hnc245 := NB261_269.out; have hnb246 := NB269_262.out; have hnc246 := NB262_269.out; have hnb247 := NB269_263.out; have hnc247 := NB263_269.out; have hnb248 := NB269_267.out; have hnc248 := NB267_269.out; obtain ⟨hcz249_0, hfz249_0⟩ := zc1 BK269.out; have hnb250 := NB262_261.out; have hnc250 := NB261_262.out; have hnb251 := NB262_263.out; have hnc251 := NB263_262.out; have hnb252 := NB262_267.out; have hnc252 := NB267_262.out; obtain ⟨hcz253_0, hcz253_1, hcz253_2, hcz253_3, hfz253_0, hfz253_1, hfz253_2, hfz253_3⟩ := zc4 BK262.out; have hnb254 := NB261_263.out; have hnc254 := NB263_261.out; have hnb255 := NB261_267.out; have hnc255 := NB267_261.out; obtain ⟨hcz256_0, hfz256_0⟩ := zc1 BK261.out) | ((with_reducible refine gate_callee (f := 42) rfl ?_); refine goesL_ (some 47) rfl rfl Try.func42 (by kernel_rfl) rfl #[.agg #[.slice A0_0 l0_0.length c0_0], .string a1_1] rfl zr ?_; (with_reducible refine (impl_withoutFile.calls _ _ l0_0 a1_1 t285 _ ?side1 ?side2 A241.out).mono ?_); (case side1 => exact Kd.C_below HR0_0.out (zb5 HB.out GE261.out GE262.out GE263.out GE267.out GE269.out)); (case side2 => exact HC0_0.out); rintro e w257 ⟨v286, rfl, ho0, hb⟩; refine ⟨_, rfl, ?_⟩; have HO287 := am (Kd.R_lower (Kd.R_newB ho0 (g := gb267) (o := .cells #[.string x268000_48, .string x268001_48, .int .i64 x268002_48] 66 (0, 0)) (zf1 BK267.out NB267_269.out)) (below_size (zb5 HB.out GE261.out GE262.out GE263.out GE267.out GE269.out))); replace BK261 := am (bb hb (zf1 BK261.out NB261_269.out)); replace BK262 := am (bb hb (zf1 BK262.out NB262_269.out)); replace BK263 := am (bb hb (zf1 BK263.out NB263_269.out)); replace BK267 := am (bb hb (zf1 BK267.out NB267_269.out)); replace BK269 := am (blk_below (g := gb269) (o := .cells #[.slice none 0 0] 31 (0, 0)) (by (with_reducible repeat (first | refine blk_drewN ?_ _ | refine blk_drew ?_ | refine blk_alloc ?_ _)); refine blk_put (cs := #[.slice none 0 0]) ?_ 0 _ rfl; (with_reducible repeat (first | refine blk_drewN ?_ _ | refine blk_drew ?_ | refine blk_alloc ?_ _)); exact BK269.out) hb); replace HB := am (below_step (zb5 HB.out GE261.out GE262.out GE263.out GE267.out GE269.out) hb); (try clear hb); (try clear hb2); (try clear hk); (try clear hi); (try clear ho0); obtain ⟨Ao258, co258, eo258⟩ := Kd.R_slice HO287.out; subst eo258; obtain ⟨hcz259_0, hfz259_0⟩ := zc1 BK269.out) | ((with_reducible refine gate_callee (f := 39) rfl ?_); refine goesL_ (some 94) rfl rfl Try.func39 (by kernel_rfl) rfl #[.agg #[.slice Ao258 t285.length co258]] rfl zr ?_; (with_reducible refine (impl_DiskOk.calls kj48 _ _ t285 true _ ?side1 ?side2 A242.out).mono ?_); (case side1 => refine (Kd.R_reads' (e := 66) (base := w.heap.size) (ok := fun k_ => (True ∧ k_ ≠ gb267)) (n := t285.length) (c := co258) ?_).2.2; exact (rx ((Kd.R_mono (Kd.R_far (p := ⟨gb269, 0, none⟩) (Kd.R_types HO287.out BK269.out (by decide)) (fun _ hk => hk.2) (.slice Ao258 t285.length co258)) (fun _ h_ => h_.1))))); (case side2 => exact (Kd.R_reads' HO287.out).2.1); rintro e w260 ⟨rfl, hb⟩; refine ⟨_, rfl, ?_⟩; replace HO287 := am (Kd.R_below (rx ((Kd.R_mono (Kd.R_far (p := ⟨gb269, 0, none⟩) (Kd.R_types HO287.out BK269.out (by decide)) (fun _ hk => hk.2) (.slice Ao258 t285.length co258)) (fun _ h_ => h_.1)))) hb); replace BK261 := am (bb hb (zf1 BK261.out NB261_269.out)); replace BK262 := am (bb hb (zf1 BK262.out NB262_269.out)); replace BK263 := am (bb hb (zf1 BK263.out NB263_269.out)); replace BK267 := am (bb hb (zf1 BK267.out NB267_269.out)); replace BK269 := am (blk_below (g := gb269) (o := .cells #[.slice Ao258 t285.length co258] 31 (0, 0)) (by (with_reducible repeat (first | refine blk_drewN ?_ _ | refine blk_drew ?_ | refine blk_alloc ?_ _)); refine blk_put (cs := #[.slice none 0 0]) ?_ 0 _ rfl; (with_reducible repeat (first | refine blk_drewN ?_ _ | refine blk_drew ?_ | refine blk_alloc ?_ _)); exact BK269.out) hb); replace HB := am (below_step (zb5 HB.out GE261.out GE262.out GE263.out GE267.out GE269.out) hb); (try clear hb); (try clear hb2); (try clear hk); (try clear hi); obtain ⟨hcz261_0, hfz261_0⟩ := zc1 BK269.out; have hnb262 := NB263_267.out; have hnc262 := NB267_263.out; obtain ⟨hcz263_0, hfz263_0⟩ := zc1 BK263.out))
          refine bodyPost_ret (results_ct rfl _ _ gb263 31 #[.slice Ao258 t285.length co258] (0, 0) _ rfl (by (with_reducible repeat (first | refine blk_drewN ?_ _ | refine blk_drew ?_ | refine blk_alloc ?_ _)); refine blk_put (cs := #[.slice none 0 0]) ?_ 0 _ rfl; (with_reducible repeat (first | refine blk_drewN ?_ _ | refine blk_drew ?_ | refine blk_alloc ?_ _)); exact BK263.out) Try.underlying31 rfl (by kernel_rfl)) rfl ?_
          exact ⟨_, by first | rfl | (simp [errW_none, errW_some] <;> rfl) | (simp [*, errW_none, errW_some] <;> rfl), rx (Kd.R_mono (Kd.R_far (p := ⟨gb263, 0, none⟩) (Kd.R_types HO287.out BK263.out (by decide)) (fun _ hk => hk.2) (.slice Ao258 t285.length co258)) (fun _ hk => trivial)), zb5 HB.out GE261.out GE262.out GE263.out GE267.out GE269.out⟩
         ·replace c243 := Bool.eq_false_iff.mpr c243
          subst c243
          have H1 : (some (([] : List (S66)), false)) = some (r1, r2) := by rw [if_neg (show ¬ (false = true) by decide)] at H; exact H
          clear H
          have H := H1
          clear H1
          simp only [Option.some.injEq, Prod.mk.injEq] at H
          obtain ⟨rfl, rfl⟩ := H
          go_wp2_with (first | ((with_reducible refine gate_dst (N := 8) rfl ?_); refine box_event ?hg (N := 8) ?hd (cs := #[.slice none 0 0]) (t := 31) ?hr ?_; (case hd => rfl); (case hg => rfl); (case hr => first | (go_simp; done) | (go_simp; rfl)); intro gb269 hg w264 hbox hb; have BK269 := am (hbox); have GW269 := zge hg (zb4 HB.out GE261.out GE262.out GE263.out GE267.out); have GE269 := zge hg (zb4 HB.out GE261.out GE262.out GE263.out GE267.out); have NB261_269 := znl hg (kx BK261.out); have NB269_261 := zng hg (kx BK261.out); have NB262_269 := znl hg (kx BK262.out); have NB269_262 := zng hg (kx BK262.out); have NB263_269 := znl hg (kx BK263.out); have NB269_263 := zng hg (kx BK263.out); have NB267_269 := znl hg (kx BK267.out); have NB269_267 := zng hg (kx BK267.out); replace BK261 := am (bb hb (kx BK261.out)); replace BK262 := am (bb hb (kx BK262.out)); replace BK263 := am (bb hb (kx BK263.out)); replace BK267 := am (bb hb (kx BK267.out)); replace HB := am (below_step (zb4 HB.out GE261.out GE262.out GE263.out GE267.out) hb); clear hb hbox hg; have hnb265 := NB269_261.out; have hnc265 := NB261_269.out; have hnb266 := NB269_262.out; have hnc266 := NB262_269.out; have hnb267 := NB269_263.out; have hnc267 := NB263_269.out; have hnb268 := NB269_267.out; have hnc268 := NB267_269.out; obtain ⟨hcz269_0, hfz269_0⟩ := zc1 BK269.out; have hnb270 := NB262_261.out; have hnc270 := NB261_262.out; have hnb271 := NB262_263.out; have hnc271 := NB263_262.out; have hnb272 := NB262_267.out; have hnc272 := NB267_262.out; obtain ⟨hcz273_0, hcz273_1, hcz273_2, hcz273_3, hfz273_0, hfz273_1, hfz273_2, hfz273_3⟩ := zc4 BK262.out; have hnb274 := NB261_263.out; have hnc274 := NB263_261.out; have hnb275 := NB261_267.out; have hnc275 := NB267_261.out; obtain ⟨hcz276_0, hfz276_0⟩ := zc1 BK261.out) | ((with_reducible refine gate_callee (f := 42) rfl ?_); refine goesL_ (some 47) rfl rfl Try.func42 (by kernel_rfl) rfl #[.agg #[.slice A0_0 l0_0.length c0_0], .string a1_1] rfl zr ?_; (with_reducible refine (impl_withoutFile.calls _ _ l0_0 a1_1 t285 _ ?side1 ?side2 A241.out).mono ?_); (case side1 => exact Kd.C_below HR0_0.out (zb5 HB.out GE261.out GE262.out GE263.out GE267.out GE269.out)); (case side2 => exact HC0_0.out); rintro e w277 ⟨v286, rfl, ho0, hb⟩; refine ⟨_, rfl, ?_⟩; have HO287 := am (Kd.R_lower (Kd.R_newB ho0 (g := gb267) (o := .cells #[.string x268000_48, .string x268001_48, .int .i64 x268002_48] 66 (0, 0)) (zf1 BK267.out NB267_269.out)) (below_size (zb5 HB.out GE261.out GE262.out GE263.out GE267.out GE269.out))); replace BK261 := am (bb hb (zf1 BK261.out NB261_269.out)); replace BK262 := am (bb hb (zf1 BK262.out NB262_269.out)); replace BK263 := am (bb hb (zf1 BK263.out NB263_269.out)); replace BK267 := am (bb hb (zf1 BK267.out NB267_269.out)); replace BK269 := am (blk_below (g := gb269) (o := .cells #[.slice none 0 0] 31 (0, 0)) (by (with_reducible repeat (first | refine blk_drewN ?_ _ | refine blk_drew ?_ | refine blk_alloc ?_ _)); refine blk_put (cs := #[.slice none 0 0]) ?_ 0 _ rfl; (with_reducible repeat (first | refine blk_drewN ?_ _ | refine blk_drew ?_ | refine blk_alloc ?_ _)); exact BK269.out) hb); replace HB := am (below_step (zb5 HB.out GE261.out GE262.out GE263.out GE267.out GE269.out) hb); (try clear hb); (try clear hb2); (try clear hk); (try clear hi); (try clear ho0); obtain ⟨Ao278, co278, eo278⟩ := Kd.R_slice HO287.out; subst eo278; obtain ⟨hcz279_0, hfz279_0⟩ := zc1 BK269.out) | ((with_reducible refine gate_callee (f := 39) rfl ?_); refine goesL_ (some 94) rfl rfl Try.func39 (by kernel_rfl) rfl #[.agg #[.slice Ao278 t285.length co278]] rfl zr ?_; (with_reducible refine (impl_DiskOk.calls kj48 _ _ t285 false _ ?side1 ?side2 A242.out).mono ?_); (case side1 => refine (Kd.R_reads' (e := 66) (base := w.heap.size) (ok := fun k_ => (True ∧ k_ ≠ gb267)) (n := t285.length) (c := co278) ?_).2.2; exact (rx ((Kd.R_mono (Kd.R_far (p := ⟨gb269, 0, none⟩) (Kd.R_types HO287.out BK269.out (by decide)) (fun _ hk => hk.2) (.slice Ao278 t285.length co278)) (fun _ h_ => h_.1))))); (case side2 => exact (Kd.R_reads' HO287.out).2.1); rintro e w280 ⟨rfl, hb⟩; refine ⟨_, rfl, ?_⟩; replace HO287 := am (Kd.R_below (rx ((Kd.R_mono (Kd.R_far (p := ⟨gb269, 0, none⟩) (Kd.R_types HO287.out BK269.out (by decide)) (fun _ hk => hk.2) (.slice Ao278 t285.length co278)) (fun _ h_ => h_.1)))) hb); replace BK261 := am (bb hb (zf1 BK261.out NB261_269.out)); replace BK262 := am (bb hb (zf1 BK262.out NB262_269.out)); replace BK263 := am (bb hb (zf1 BK263.out NB263_269.out)); replace BK267 := am (bb hb (zf1 BK267.out NB267_269.out)); replace BK269 := am (blk_below (g := gb269) (o := .cells #[.slice Ao278 t285.length co278] 31 (0, 0)) (by (with_reducible repeat (first | refine blk_drewN ?_ _ | refine blk_drew ?_ | refine blk_alloc ?_ _)); refine blk_put (cs := #[.slice none 0 0]) ?_ 0 _ rfl; (with_reducible repeat (first | refine blk_drewN ?_ _ | refine blk_drew ?_ | refine blk_alloc ?_ _)); exact BK269.out) hb); replace HB := am (below_step (zb5 HB.out GE261.out GE262.out GE263.out GE267.out GE269.out) hb); (try clear hb); (try clear hb2); (try clear hk); (try clear hi); have hnb281 := NB263_267.out; have hnc281 := NB267_263.out; obtain ⟨hcz282_0, hfz282_0⟩ := zc1 BK263.out))
          refine bodyPost_ret (results_ct rfl _ _ gb263 31 #[.slice none 0 0] (0, 0) _ rfl (by (with_reducible repeat (first | refine blk_drewN ?_ _ | refine blk_drew ?_ | refine blk_alloc ?_ _)); refine blk_put (cs := #[.slice none 0 0]) ?_ 0 _ rfl; (with_reducible repeat (first | refine blk_drewN ?_ _ | refine blk_drew ?_ | refine blk_alloc ?_ _)); exact BK263.out) Try.underlying31 rfl (by kernel_rfl)) rfl ?_
          exact ⟨_, by first | rfl | (simp [errW_none, errW_some] <;> rfl) | (simp [*, errW_none, errW_some] <;> rfl), by first | exact Kd.R_nil _ _ _ _ _ | exact Kd.N_nil _ _ _ _ _ | exact Kd.V_nil _ _ _ _ _ | exact Kd.Q_nil _ _ _ _ _ | exact Kd.S_nil _ _ _ _ _, zb5 HB.out GE261.out GE262.out GE263.out GE267.out GE269.out⟩

end Go.Proofs.Ytklbkkoojkmjbaa.QFnExactDoActs
