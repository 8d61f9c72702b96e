/- Written by the kit's print.py, called by our own print2.sh with one import more; not by print.sh. -/
import Derived.Test.YtklbkkoojkmjbaaQFnActsx0
import Derived.Test.YtklbkkoojkmjbaaQFnActsx2
import Derived.Test.YtklbkkoojkmjbaaQFnActsx3
namespace Go.Proofs.Ytklbkkoojkmjbaa.QFnActs
open Go.RowKit Go.Proofs.YtklbkkoojkmjbaaW.PrintWords Go.Proofs.YtklbkkoojkmjbaaW.PrintLast Go.Proofs.YtklbkkoojkmjbaaW.PrintMore
attribute [local go_sem] max2_int min2_int max_two min_two max_three min_three max_four min_four   -- for this text's walks alone
open Go.Proofs.Ytklbkkoojkmjbaa.Short
set_option linter.unusedVariables false
set_option linter.unusedSimpArgs false

/-! ### impl_DoAct: function 12 -/
mutual
def impl_DoAct.j0 : Nat → Int → Bool → List (S66) → Int → ByteArray → ByteArray → ByteArray → Option ((List (S66)) × Bool)
 | 0, _, _, _, _, _, _, _ => none
 | k + 1, x6, x29, x127000, x128000, x128001, x128002, x128003 => if x29 = true then (some (([] : List (S66)), false)) else (if x6 ≥ 0 then (if 0 ≤ x6 then (if x6 < (x127000.length : Int) then (impl_DoAct.j1 k x127000 x128000 x128001 x128002 x128003 ((rd_T66 x127000 x6).f0) ((rd_T66 x127000 x6).f1) ((rd_T66 x127000 x6).f2)) else (none)) else (none)) else (impl_DoAct.j1 k x127000 x128000 x128001 x128002 x128003 x128001 (⟨#[]⟩ : ByteArray) 0))
def impl_DoAct.j1 : Nat → List (S66) → Int → ByteArray → ByteArray → ByteArray → ByteArray → ByteArray → Int → Option ((List (S66)) × Bool)
 | 0, _, _, _, _, _, _, _, _ => none
 | k + 1, x127000, x128000, x128001, x128002, x128003, x133000, x133001, x133002 => if x128000 = 1 then (if x133001.size + x128002.size ≤ 9223372036854775807 then ((impl_withFile.f x127000 x133000 (x133001 ++ x128002) x133002).bind fun t135 => ((impl_DiskOk.f k t135).bind fun t138 => (if t138 = true then (some (t135, true)) else (some (([] : List (S66)), false))))) else (none)) else (if x128000 = 2 then ((impl_withFile.f x127000 x133000 x133001 (x133001.size : Int)).bind fun t139 => ((impl_DiskOk.f k t139).bind fun t142 => (if t142 = true then (some (t139, true)) else (some (([] : List (S66)), false))))) else (if x128000 = 3 then (if x133002 = (x133001.size : Int) then (impl_DoAct.j2 k (x128003.toList == x128001.toList) x127000 x128000 x128001 x128002 x128003 x133000 x133001 x133002) else (impl_DoAct.j2 k true x127000 x128000 x128001 x128002 x128003 x133000 x133001 x133002)) else ((impl_withoutFile.f x127000 x128001).bind fun t150 => ((impl_DiskOk.f k t150).bind fun t153 => (if t153 = true then (some (t150, true)) else (some (([] : List (S66)), false)))))))
def impl_DoAct.j2 : Nat → Bool → List (S66) → Int → ByteArray → ByteArray → ByteArray → ByteArray → ByteArray → Int → Option ((List (S66)) × Bool)
 | 0, _, _, _, _, _, _, _, _, _ => none
 | k + 1, x82, x127000, x128000, x128001, x128002, x128003, x133000, x133001, x133002 => if x82 = true then (some (([] : List (S66)), false)) else ((impl_withoutFile.f x127000 x128001).bind fun t143 => ((impl_withFile.f t143 x128003 x133001 x133002).bind fun t146 => ((impl_DiskOk.f k t146).bind fun t149 => (if t149 = true then (some (t146, true)) else (some (([] : List (S66)), false))))))
end
def impl_DoAct.f (k : Nat) (l0_0 : List (S66)) (a1_0 : Int) (a1_1 : ByteArray) (a1_2 : ByteArray) (a1_3 : ByteArray) : Option ((List (S66)) × Bool) := (impl_placeOf.f l0_0 a1_1).bind fun t129 => ((impl_DiskOk.f k l0_0).bind fun t130 => (if t130 = true then ((impl_actOk.f a1_0 a1_1 a1_2 a1_3).bind fun t131 => (if t131 = true then (if t129 < 0 then (impl_DoAct.j0 k t129 (a1_0 != 1) l0_0 a1_0 a1_1 a1_2 a1_3) else (impl_DoAct.j0 k t129 false l0_0 a1_0 a1_1 a1_2 a1_3)) else (impl_DoAct.j0 k t129 true l0_0 a1_0 a1_1 a1_2 a1_3))) else (impl_DoAct.j0 k t129 true l0_0 a1_0 a1_1 a1_2 a1_3)))
theorem impl_DoAct.mono_l : ∀ k, (∀ y0 y1 y2 y3 y4 y5 y6, LeO (impl_DoAct.j0 k y0 y1 y2 y3 y4 y5 y6) (impl_DoAct.j0 (k + 1) y0 y1 y2 y3 y4 y5 y6)) ∧ (∀ y0 y1 y2 y3 y4 y5 y6 y7, LeO (impl_DoAct.j1 k y0 y1 y2 y3 y4 y5 y6 y7) (impl_DoAct.j1 (k + 1) y0 y1 y2 y3 y4 y5 y6 y7)) ∧ (∀ y0 y1 y2 y3 y4 y5 y6 y7 y8, LeO (impl_DoAct.j2 k y0 y1 y2 y3 y4 y5 y6 y7 y8) (impl_DoAct.j2 (k + 1) y0 y1 y2 y3 y4 y5 y6 y7 y8))
 | 0 => ⟨fun _ _ _ _ _ _ _ r h => by simp [impl_DoAct.j0] at h, fun _ _ _ _ _ _ _ _ r h => by simp [impl_DoAct.j1] at h, fun _ _ _ _ _ _ _ _ _ r h => by simp [impl_DoAct.j2] at h⟩
 | k + 1 => by
  obtain ⟨ih0, ih1, ih2⟩ := impl_DoAct.mono_l k
  refine ⟨?_, ?_, ?_⟩
  ·intro y0 y1 y2 y3 y4 y5 y6
   unfold impl_DoAct.j0
   repeat' first
   | (with_reducible exact ih0 _ _ _ _ _ _ _)
   | (with_reducible exact ih1 _ _ _ _ _ _ _ _)
   | (with_reducible exact ih2 _ _ _ _ _ _ _ _ _)
   | (with_reducible exact impl_DiskOk.mono _ _)
   | (with_reducible exact LeO.refl _)
   | (with_reducible exact LeO.none _)
   | (with_reducible refine LeO.ite ?_ ?_)
   | (with_reducible refine LeO.bind ?_ (fun _ => ?_))
   | exact ih0 _ _ _ _ _ _ _
   | exact ih1 _ _ _ _ _ _ _ _
   | exact ih2 _ _ _ _ _ _ _ _ _
   | exact impl_DiskOk.mono _ _
   | exact LeO.none _
   | refine LeO.ite ?_ ?_
   | refine LeO.bind ?_ (fun _ => ?_)
  ·intro y0 y1 y2 y3 y4 y5 y6 y7
   unfold impl_DoAct.j1
   repeat' first
   | (with_reducible exact ih0 _ _ _ _ _ _ _)
   | (with_reducible exact ih1 _ _ _ _ _ _ _ _)
   | (with_reducible exact ih2 _ _ _ _ _ _ _ _ _)
   | (with_reducible exact impl_DiskOk.mono _ _)
   | (with_reducible exact LeO.refl _)
   | (with_reducible exact LeO.none _)
   | (with_reducible refine LeO.ite ?_ ?_)
   | (with_reducible refine LeO.bind ?_ (fun _ => ?_))
   | exact ih0 _ _ _ _ _ _ _
   | exact ih1 _ _ _ _ _ _ _ _
   | exact ih2 _ _ _ _ _ _ _ _ _
   | exact impl_DiskOk.mono _ _
   | exact LeO.none _
   | refine LeO.ite ?_ ?_
   | refine LeO.bind ?_ (fun _ => ?_)
  ·intro y0 y1 y2 y3 y4 y5 y6 y7 y8
   unfold impl_DoAct.j2
   repeat' first
   | (with_reducible exact ih0 _ _ _ _ _ _ _)
   | (with_reducible exact ih1 _ _ _ _ _ _ _ _)
   | (with_reducible exact ih2 _ _ _ _ _ _ _ _ _)
   | (with_reducible exact impl_DiskOk.mono _ _)
   | (with_reducible exact LeO.refl _)
   | (with_reducible exact LeO.none _)
   | (with_reducible refine LeO.ite ?_ ?_)
   | (with_reducible refine LeO.bind ?_ (fun _ => ?_))
   | exact ih0 _ _ _ _ _ _ _
   | exact ih1 _ _ _ _ _ _ _ _
   | exact ih2 _ _ _ _ _ _ _ _ _
   | exact impl_DiskOk.mono _ _
   | exact LeO.none _
   | refine LeO.ite ?_ ?_
   | refine LeO.bind ?_ (fun _ => ?_)
theorem impl_DoAct.mono : ∀ a0 a1 a2 a3 a4 k, LeO (impl_DoAct.f k a0 a1 a2 a3 a4) (impl_DoAct.f (k + 1) a0 a1 a2 a3 a4) := by
 intro a0 a1 a2 a3 a4 k
 obtain ⟨ih0, ih1, ih2⟩ := impl_DoAct.mono_l k
 unfold impl_DoAct.f
 repeat' first
   | (with_reducible exact ih0 _ _ _ _ _ _ _)
   | (with_reducible exact ih1 _ _ _ _ _ _ _ _)
   | (with_reducible exact ih2 _ _ _ _ _ _ _ _ _)
   | (with_reducible exact impl_DiskOk.mono _ _)
   | (with_reducible exact LeO.refl _)
   | (with_reducible exact LeO.none _)
   | (with_reducible refine LeO.ite ?_ ?_)
   | (with_reducible refine LeO.bind ?_ (fun _ => ?_))
   | exact ih0 _ _ _ _ _ _ _
   | exact ih1 _ _ _ _ _ _ _ _
   | exact ih2 _ _ _ _ _ _ _ _ _
   | exact impl_DiskOk.mono _ _
   | exact LeO.none _
   | refine LeO.ite ?_ ?_
   | refine LeO.bind ?_ (fun _ => ?_)
set_option maxHeartbeats 8000000 in
set_option maxRecDepth 100000 in
theorem impl_DoAct.calls (k : Nat) (A0_0 : Option Addr) (c0_0 : Nat) (l0_0 : List (S66)) (a1_0 : Int) (a1_1 : ByteArray) (a1_2 : ByteArray) (a1_3 : ByteArray) (r1 : List (S66)) (r2 : Bool) (w : World) (hr0_0 : Kd.C k66 w A0_0 l0_0.length l0_0) (hc0_0 : l0_0.length ≤ c0_0) (h : impl_DoAct.f k l0_0 a1_0 a1_1 a1_2 a1_3 = some (r1, r2)) :
  Calls Try.prog 12 #[.agg #[.slice A0_0 l0_0.length c0_0], .agg #[.int .i64 a1_0, .string a1_1, .string a1_2, .string a1_3]] w fun e w' => ∃ v0_ : Value, e = .returned (.tuple #[.agg #[v0_], .bool r2]) ∧ Kd.R k66 66 w' w.heap.size (fun _ => True) v0_ r1 ∧ Below w.heap.size w w' := by
 have hu31 := Try.underlying31
 have hu35 := Try.underlying35
 have hu66 := Try.underlying66
 have HR0_0 := Aside0.mk hr0_0
 have HC0_0 := Aside0.mk hc0_0
 clear hr0_0 hc0_0
 have HB := Aside0.mk (Below.refl w.heap.size w)
 have H : ((impl_placeOf.f l0_0 a1_1).bind fun t129 => ((impl_DiskOk.f k l0_0).bind fun t130 => (if t130 = true then ((impl_actOk.f a1_0 a1_1 a1_2 a1_3).bind fun t131 => (if t131 = true then (if t129 < 0 then (impl_DoAct.j0 k t129 (a1_0 != 1) l0_0 a1_0 a1_1 a1_2 a1_3) else (impl_DoAct.j0 k t129 false l0_0 a1_0 a1_1 a1_2 a1_3)) else (impl_DoAct.j0 k t129 true l0_0 a1_0 a1_1 a1_2 a1_3))) else (impl_DoAct.j0 k t129 true l0_0 a1_0 a1_1 a1_2 a1_3)))) = some (r1, r2) := h
 clear h
 replace H := Option.bind_eq_some_iff.mp H
 obtain ⟨t129, A30, H⟩ := H
 try dsimp only at H
 have A3 := Aside0.mk A30
 clear A30
 have HC4 := Aside0.mk H
 clear H
 go_enter Try.func12, Try.ntmps12
 go_upto_region 2 with (first | ((with_reducible refine gate_dst (N := 2) rfl ?_); refine box_event rfl (N := 2) rfl (cs := #[.slice A0_0 l0_0.length c0_0]) (t := 31) zrun ?_; intro gb126 hg w5 hbox hb; have BK126 := am (hbox); have GE126 := zge hg (zb0 HB.out); replace HB := zs0 hb HB; clear hb hbox hg) | ((with_reducible refine gate_dst (N := 3) rfl ?_); refine box_event rfl (N := 3) rfl (cs := #[.int .i64 a1_0, .string a1_1, .string a1_2, .string a1_3]) (t := 35) zrun ?_; intro gb127 hg w6 hbox hb; have BK127 := am (hbox); have GE127 := zge hg (zb1 HB.out GE126.out); obtain ⟨NB126_127, NB127_126⟩ := zne hg BK126; replace BK126 := zk hb BK126; replace HB := zs1 hb HB GE126; clear hb hbox hg) | ((with_reducible refine gate_dst (N := 4) rfl ?_); refine box_event rfl (N := 4) rfl (cs := #[.slice none 0 0]) (t := 31) zrun ?_; intro gb128 hg w7 hbox hb; have BK128 := am (hbox); have GE128 := zge hg (zb2 HB.out GE126.out GE127.out); obtain ⟨NB126_128, NB128_126⟩ := zne hg BK126; obtain ⟨NB127_128, NB128_127⟩ := zne hg BK127; replace BK126 := zk hb BK126; replace BK127 := zk hb BK127; replace HB := zs2 hb HB GE126 GE127; clear hb hbox hg; obtain ⟨hnb8, hnc8⟩ := zn2 NB126_127; obtain ⟨hnb9, hnc9⟩ := zn2 NB126_128; obtain ⟨hcz10_0, hfz10_0⟩ := zc1 BK126.out; obtain ⟨hnb11, hnc11⟩ := zn2 NB127_128; obtain ⟨hcz12_0, hcz12_1, hcz12_2, hcz12_3, hfz12_0, hfz12_1, hfz12_2, hfz12_3⟩ := zc4 BK127.out) | ((with_reducible refine gate_callee (f := 38) rfl ?_); refine goesL_ (some 12) rfl rfl Try.func38 (by kernel_rfl) rfl #[.agg #[.slice A0_0 l0_0.length c0_0], .string a1_1] rfl zr ?_; (with_reducible refine (impl_placeOf.calls _ _ l0_0 a1_1 t129 _ ?side1 ?side2 A3.out).mono ?_); (case side1 => repeat (first | exact (Kd.C_below HR0_0.out HB.out) | (with_reducible refine Kd.C_alloc ?_ _) | (with_reducible refine Kd.C_drewN ?_ _) | (with_reducible refine Kd.C_drew ?_))); (case side2 => exact HC0_0.out); rintro e w13 ⟨rfl, hb⟩; refine ⟨_, rfl, ?_⟩; replace BK126 := zk hb BK126; replace BK127 := zk hb BK127; replace BK128 := zk hb BK128; replace HB := zs3 hb HB GE126 GE127 GE128; clear hb))
 (try simp only [Act.put, List.setIfInBounds_toArray, List.set_cons_zero, List.set_cons_succ])
 go_cut [29] (fun v29 wc => ∃ (kq : Nat) (x29_3 : Bool), v29 = .bool x29_3 ∧ Aside0 (impl_DoAct.j0 kq t129 x29_3 l0_0 a1_0 a1_1 a1_2 a1_3 = some (r1, r2)) ∧ Aside0 (kq ≤ k) ∧ Aside0 (wc.heap[gb126]? = some (.cells #[(.slice A0_0 l0_0.length c0_0)] 31 (0, 0))) ∧ Aside0 (wc.heap[gb127]? = some (.cells #[.int .i64 a1_0, .string a1_1, .string a1_2, .string a1_3] 35 (0, 0))) ∧ Aside0 (wc.heap[gb128]? = some (.cells #[(.slice none 0 0)] 31 (0, 0))) ∧ Aside0 (Below w.heap.size w wc))
 case first =>
  have H := HC4.out
  clear HC4
  replace H := Option.bind_eq_some_iff.mp H
  obtain ⟨t130, A140, H⟩ := H
  try dsimp only at H
  have A14 := Aside0.mk A140
  clear A140
  by_cases c15 : t130 = true
  ·subst c15
   have H1 : ((impl_actOk.f a1_0 a1_1 a1_2 a1_3).bind fun t131 => (if t131 = true then (if t129 < 0 then (impl_DoAct.j0 k t129 (a1_0 != 1) l0_0 a1_0 a1_1 a1_2 a1_3) else (impl_DoAct.j0 k t129 false l0_0 a1_0 a1_1 a1_2 a1_3)) else (impl_DoAct.j0 k t129 true l0_0 a1_0 a1_1 a1_2 a1_3))) = some (r1, r2) := by rw [if_pos rfl] at H; exact H
   clear H
   have H := H1
   clear H1
   replace H := Option.bind_eq_some_iff.mp H
   obtain ⟨t131, A160, H⟩ := H
   try dsimp only at H
   have A16 := Aside0.mk A160
   clear A160
   by_cases c17 : t131 = true
   ·subst c17
    have H1 : (if t129 < 0 then (impl_DoAct.j0 k t129 (a1_0 != 1) l0_0 a1_0 a1_1 a1_2 a1_3) else (impl_DoAct.j0 k t129 false l0_0 a1_0 a1_1 a1_2 a1_3)) = some (r1, r2) := by rw [if_pos rfl] at H; exact H
    clear H
    have H := H1
    clear H1
    by_cases c18 : t129 < 0
    ·rw [if_pos c18] at H
     have c18b0 : decide (t129 < 0) = true := decide_eq_true c18
     clear c18
     (first | rw [c18b0] | (simp only [i64_w, i32_w]; rw [c18b0]) | skip)
     have H' := Aside0.mk H
     clear H
     obtain ⟨hnb19, hnc19⟩ := zn2 NB126_127
     obtain ⟨hnb20, hnc20⟩ := zn2 NB126_128
     obtain ⟨hcz21_0, hfz21_0⟩ := zc1 BK126.out
     go_wp2_with (first | ((with_reducible refine gate_callee (f := 39) rfl ?_); refine goesL_ (some 14) rfl rfl Try.func39 (by kernel_rfl) rfl #[.agg #[.slice A0_0 l0_0.length c0_0]] rfl zr ?_; (with_reducible refine (impl_DiskOk.calls k _ _ l0_0 true _ ?side1 ?side2 A14.out).mono ?_); (case side1 => repeat (first | exact (Kd.C_below HR0_0.out HB.out) | (with_reducible refine Kd.C_alloc ?_ _) | (with_reducible refine Kd.C_drewN ?_ _) | (with_reducible refine Kd.C_drew ?_))); (case side2 => exact HC0_0.out); rintro e w22 ⟨rfl, hb⟩; refine ⟨_, rfl, ?_⟩; replace BK126 := zk hb BK126; replace BK127 := zk hb BK127; replace BK128 := zk hb BK128; replace HB := zs3 hb HB GE126 GE127 GE128; clear hb; obtain ⟨hnb23, hnc23⟩ := zn2 NB127_128; obtain ⟨hcz24_0, hcz24_1, hcz24_2, hcz24_3, hfz24_0, hfz24_1, hfz24_2, hfz24_3⟩ := zc4 BK127.out) | (go_at_call 40; (with_reducible refine (impl_actOk.calls a1_0 a1_1 a1_2 a1_3 true _ A16.out).mono ?_); rintro e w25 ⟨rfl, hb⟩; replace BK126 := zk hb BK126; replace BK127 := zk hb BK127; replace BK128 := zk hb BK128; replace HB := zs3 hb HB GE126 GE127 GE128; clear hb; obtain ⟨hcz26_0, hcz26_1, hcz26_2, hcz26_3, hfz26_0, hfz26_1, hfz26_2, hfz26_3⟩ := zc4 BK127.out))
     go_meet
     case rel => exact ⟨_, ((a1_0 != 1)), (by first | rfl | (simp; done) | (simp [*]; done)), H', ⟨by first | omega | exact Nat.le_refl _⟩, ⟨kx BK126.out⟩, ⟨kx BK127.out⟩, ⟨kx BK128.out⟩, ⟨zb3 HB.out GE126.out GE127.out GE128.out⟩⟩
    ·rw [if_neg c18] at H
     have c18b0 : decide (t129 < 0) = false := decide_eq_false c18
     clear c18
     (first | rw [c18b0] | (simp only [i64_w, i32_w]; rw [c18b0]) | skip)
     have H' := Aside0.mk H
     clear H
     obtain ⟨hnb27, hnc27⟩ := zn2 NB126_127
     obtain ⟨hnb28, hnc28⟩ := zn2 NB126_128
     obtain ⟨hcz29_0, hfz29_0⟩ := zc1 BK126.out
     go_wp2_with (first | ((with_reducible refine gate_callee (f := 39) rfl ?_); refine goesL_ (some 14) rfl rfl Try.func39 (by kernel_rfl) rfl #[.agg #[.slice A0_0 l0_0.length c0_0]] rfl zr ?_; (with_reducible refine (impl_DiskOk.calls k _ _ l0_0 true _ ?side1 ?side2 A14.out).mono ?_); (case side1 => repeat (first | exact (Kd.C_below HR0_0.out HB.out) | (with_reducible refine Kd.C_alloc ?_ _) | (with_reducible refine Kd.C_drewN ?_ _) | (with_reducible refine Kd.C_drew ?_))); (case side2 => exact HC0_0.out); rintro e w30 ⟨rfl, hb⟩; refine ⟨_, rfl, ?_⟩; replace BK126 := zk hb BK126; replace BK127 := zk hb BK127; replace BK128 := zk hb BK128; replace HB := zs3 hb HB GE126 GE127 GE128; clear hb; obtain ⟨hnb31, hnc31⟩ := zn2 NB127_128; obtain ⟨hcz32_0, hcz32_1, hcz32_2, hcz32_3, hfz32_0, hfz32_1, hfz32_2, hfz32_3⟩ := zc4 BK127.out) | (go_at_call 40; (with_reducible refine (impl_actOk.calls a1_0 a1_1 a1_2 a1_3 true _ A16.out).mono ?_); rintro e w33 ⟨rfl, hb⟩; replace BK126 := zk hb BK126; replace BK127 := zk hb BK127; replace BK128 := zk hb BK128; replace HB := zs3 hb HB GE126 GE127 GE128; clear hb))
     go_meet
     case rel => exact ⟨_, (false), (by first | rfl | (simp; done) | (simp [*]; done)), H', ⟨by first | omega | exact Nat.le_refl _⟩, ⟨kx BK126.out⟩, ⟨kx BK127.out⟩, ⟨kx BK128.out⟩, ⟨zb3 HB.out GE126.out GE127.out GE128.out⟩⟩
   ·replace c17 := Bool.eq_false_iff.mpr c17
    subst c17
    have H1 : (impl_DoAct.j0 k t129 true l0_0 a1_0 a1_1 a1_2 a1_3) = some (r1, r2) := by rw [if_neg (show ¬ (false = true) by decide)] at H; exact H
    clear H
    have H := H1
    clear H1
    have H' := Aside0.mk H
    clear H
    obtain ⟨hnb34, hnc34⟩ := zn2 NB126_127
    obtain ⟨hnb35, hnc35⟩ := zn2 NB126_128
    obtain ⟨hcz36_0, hfz36_0⟩ := zc1 BK126.out
    go_wp2_with (first | ((with_reducible refine gate_callee (f := 39) rfl ?_); refine goesL_ (some 14) rfl rfl Try.func39 (by kernel_rfl) rfl #[.agg #[.slice A0_0 l0_0.length c0_0]] rfl zr ?_; (with_reducible refine (impl_DiskOk.calls k _ _ l0_0 true _ ?side1 ?side2 A14.out).mono ?_); (case side1 => repeat (first | exact (Kd.C_below HR0_0.out HB.out) | (with_reducible refine Kd.C_alloc ?_ _) | (with_reducible refine Kd.C_drewN ?_ _) | (with_reducible refine Kd.C_drew ?_))); (case side2 => exact HC0_0.out); rintro e w37 ⟨rfl, hb⟩; refine ⟨_, rfl, ?_⟩; replace BK126 := zk hb BK126; replace BK127 := zk hb BK127; replace BK128 := zk hb BK128; replace HB := zs3 hb HB GE126 GE127 GE128; clear hb; obtain ⟨hnb38, hnc38⟩ := zn2 NB127_128; obtain ⟨hcz39_0, hcz39_1, hcz39_2, hcz39_3, hfz39_0, hfz39_1, hfz39_2, hfz39_3⟩ := zc4 BK127.out) | (go_at_call 40; (with_reducible refine (impl_actOk.calls a1_0 a1_1 a1_2 a1_3 false _ A16.out).mono ?_); rintro e w40 ⟨rfl, hb⟩; replace BK126 := zk hb BK126; replace BK127 := zk hb BK127; replace BK128 := zk hb BK128; replace HB := zs3 hb HB GE126 GE127 GE128; clear hb))
    go_meet
    case rel => exact ⟨_, (true), (by first | rfl | (simp; done) | (simp [*]; done)), H', ⟨by first | omega | exact Nat.le_refl _⟩, ⟨kx BK126.out⟩, ⟨kx BK127.out⟩, ⟨kx BK128.out⟩, ⟨zb3 HB.out GE126.out GE127.out GE128.out⟩⟩
  ·replace c15 := Bool.eq_false_iff.mpr c15
   subst c15
   have H1 : (impl_DoAct.j0 k t129 true l0_0 a1_0 a1_1 a1_2 a1_3) = some (r1, r2) := by rw [if_neg (show ¬ (false = true) by decide)] at H; exact H
   clear H
   have H := H1
   clear H1
   have H' := Aside0.mk H
   clear H
   obtain ⟨hnb41, hnc41⟩ := zn2 NB126_127
   obtain ⟨hnb42, hnc42⟩ := zn2 NB126_128
   obtain ⟨hcz43_0, hfz43_0⟩ := zc1 BK126.out
   go_wp2_with (first | ((with_reducible refine gate_callee (f := 39) rfl ?_); refine goesL_ (some 14) rfl rfl Try.func39 (by kernel_rfl) rfl #[.agg #[.slice A0_0 l0_0.length c0_0]] rfl zr ?_; (with_reducible refine (impl_DiskOk.calls k _ _ l0_0 false _ ?side1 ?side2 A14.out).mono ?_); (case side1 => repeat (first | exact (Kd.C_below HR0_0.out HB.out) | (with_reducible refine Kd.C_alloc ?_ _) | (with_reducible refine Kd.C_drewN ?_ _) | (with_reducible refine Kd.C_drew ?_))); (case side2 => exact HC0_0.out); rintro e w44 ⟨rfl, hb⟩; refine ⟨_, rfl, ?_⟩; replace BK126 := zk hb BK126; replace BK127 := zk hb BK127; replace BK128 := zk hb BK128; replace HB := zs3 hb HB GE126 GE127 GE128; clear hb))
   go_meet
   case rel => exact ⟨_, (true), (by first | rfl | (simp; done) | (simp [*]; done)), H', ⟨by first | omega | exact Nat.le_refl _⟩, ⟨kx BK126.out⟩, ⟨kx BK127.out⟩, ⟨kx BK128.out⟩, ⟨zb3 HB.out GE126.out GE127.out GE128.out⟩⟩
 case rest =>
  clear HC4
  obtain ⟨kq, x29_3, rfl, HA, HJ3, BK126, BK127, BK128, HB⟩ := hcut
  cases kq with
  | zero => exact absurd HA.out (by simp [impl_DoAct.j0])
  | succ kj3 =>
   have H := HA.out
   clear HA
   simp only [impl_DoAct.j0] at H
   by_cases c45 : x29_3 = true
   ·subst c45
    have H1 : (some (([] : List (S66)), false)) = some (r1, r2) := by rw [if_pos rfl] at H; exact H
    clear H
    have H := H1
    clear H1
    simp only [Option.some.injEq, Prod.mk.injEq] at H
    obtain ⟨rfl, rfl⟩ := H
    obtain ⟨hnb46, hnc46⟩ := zn2 NB128_126
    obtain ⟨hnb47, hnc47⟩ := zn2 NB128_127
    obtain ⟨hcz48_0, hfz48_0⟩ := zc1 BK128.out
    go_wp2
    refine bodyPost_ret (results_ct rfl _ _ gb128 31 #[.slice none 0 0] (0, 0) _ rfl (zp0 BK128.out) Try.underlying31 rfl (by kernel_rfl)) rfl ?_
    exact ⟨_, by first | rfl | (simp [errW_none, errW_some] <;> rfl) | (simp [*, errW_none, errW_some] <;> rfl), by first | exact Kd.R_nil _ _ _ _ _ | exact Kd.N_nil _ _ _ _ _ | exact Kd.V_nil _ _ _ _ _ | exact Kd.Q_nil _ _ _ _ _ | exact Kd.S_nil _ _ _ _ _, zb3 HB.out GE126.out GE127.out GE128.out⟩
   ·replace c45 := Bool.eq_false_iff.mpr c45
    subst c45
    have H1 : (if t129 ≥ 0 then (if 0 ≤ t129 then (if t129 < (l0_0.length : Int) then (impl_DoAct.j1 kj3 l0_0 a1_0 a1_1 a1_2 a1_3 ((rd_T66 l0_0 t129).f0) ((rd_T66 l0_0 t129).f1) ((rd_T66 l0_0 t129).f2)) else (none)) else (none)) else (impl_DoAct.j1 kj3 l0_0 a1_0 a1_1 a1_2 a1_3 a1_1 (⟨#[]⟩ : ByteArray) 0)) = some (r1, r2) := by rw [if_neg (show ¬ (false = true) by decide)] at H; exact H
    clear H
    have H := H1
    clear H1
    have HC49 := Aside0.mk H
    clear H
    obtain ⟨hnb50, hnc50⟩ := zn2 NB127_126
    obtain ⟨hnb51, hnc51⟩ := zn2 NB127_128
    obtain ⟨hcz52_0, hcz52_1, hcz52_2, hcz52_3, hfz52_0, hfz52_1, hfz52_2, hfz52_3⟩ := zc4 BK127.out
    go_upto_if 35 with (first | ((with_reducible refine gate_dst (N := 7) rfl ?_); refine box_event rfl (N := 7) rfl (cs := #[.string (⟨#[]⟩ : ByteArray), .string (⟨#[]⟩ : ByteArray), .int .i64 0]) (t := 66) zrun ?_; intro gb132 hg w53 hbox hb; have BK132 := am (hbox); have GW132 := zge hg (zb3 HB.out GE126.out GE127.out GE128.out); have GE132 := zge hg (zb3 HB.out GE126.out GE127.out GE128.out); obtain ⟨NB126_132, NB132_126⟩ := zne hg BK126; obtain ⟨NB127_132, NB132_127⟩ := zne hg BK127; obtain ⟨NB128_132, NB132_128⟩ := zne hg BK128; replace BK126 := zk hb BK126; replace BK127 := zk hb BK127; replace BK128 := zk hb BK128; replace HB := zs3 hb HB GE126 GE127 GE128; clear hb hbox hg; obtain ⟨hnb54, hnc54⟩ := zn2 NB132_126; obtain ⟨hnb55, hnc55⟩ := zn2 NB132_127; obtain ⟨hnb56, hnc56⟩ := zn2 NB132_128; obtain ⟨hcz57_0, hcz57_1, hcz57_2, hfz57_0, hfz57_1, hfz57_2⟩ := zc3 BK132.out))
    (try simp only [Act.put, List.setIfInBounds_toArray, List.set_cons_zero, List.set_cons_succ])
    go_cut [] (fun wc => ∃ (kq : Nat) (x133000_48 : ByteArray) (x133001_48 : ByteArray) (x133002_48 : Int), Aside0 (impl_DoAct.j1 kq l0_0 a1_0 a1_1 a1_2 a1_3 x133000_48 x133001_48 x133002_48 = some (r1, r2)) ∧ Aside0 (kq ≤ kj3) ∧ Aside0 (wc.heap[gb126]? = some (.cells #[(.slice A0_0 l0_0.length c0_0)] 31 (0, 0))) ∧ Aside0 (wc.heap[gb127]? = some (.cells #[.int .i64 a1_0, .string a1_1, .string a1_2, .string a1_3] 35 (0, 0))) ∧ Aside0 (wc.heap[gb128]? = some (.cells #[(.slice none 0 0)] 31 (0, 0))) ∧ Aside0 (wc.heap[gb132]? = some (.cells #[.string x133000_48, .string x133001_48, .int .i64 x133002_48] 66 (0, 0))) ∧ Aside0 (Below w.heap.size w wc))
    case first =>
     have H := HC49.out
     clear HC49
     by_cases c58 : t129 ≥ 0
     ·rw [if_pos c58] at H
      have c58b0 : decide (0 ≤ t129) = true := decide_eq_true c58
      clear c58
      (first | rw [c58b0] | (simp only [i64_w, i32_w]; rw [c58b0]) | skip)
      by_cases c59 : 0 ≤ t129
      ·rw [if_pos c59] at H
       have c59b0 : decide (0 ≤ t129) = true := decide_eq_true c59
       clear c59
       by_cases c60 : t129 < (l0_0.length : Int)
       ·rw [if_pos c60] at H
        have c60b0 : decide (t129 < (l0_0.length : Int)) = true := decide_eq_true c60
        have c60b1 : decide ((l0_0.length : Int) ≤ t129) = false := decide_eq_false (by omega)
        clear c60
        have H' := Aside0.mk H
        clear H
        obtain ⟨hnb61, hnc61⟩ := zn2 NB126_127
        obtain ⟨hnb62, hnc62⟩ := zn2 NB126_128
        obtain ⟨hnb63, hnc63⟩ := zn2 NB126_132
        obtain ⟨hcz64_0, hfz64_0⟩ := zc1 BK126.out
        have p133 : 0 ≤ (t129 : Int) := zpq
        have q133 : t129 < (l0_0.length : Int) := zpq
        obtain ⟨ad133, e133, hx133_0, hx133_1, hx133_2⟩ := at_T66 HR0_0.out t129 p133 q133
        cases e133
        have hn133_0 : ad133.block ≠ gb132 := Nat.ne_of_lt (Nat.lt_of_lt_of_le (by have := World.block_lt_of_cell? _ _ hx133_0; first | rwa [add_block] at this | exact this) GW132.out)
        have hn133_1 : ad133.block ≠ gb132 := Nat.ne_of_lt (Nat.lt_of_lt_of_le (by have := World.block_lt_of_cell? _ _ hx133_0; first | rwa [add_block] at this | exact this) GW132.out)
        have hn133_2 : ad133.block ≠ gb132 := Nat.ne_of_lt (Nat.lt_of_lt_of_le (by have := World.block_lt_of_cell? _ _ hx133_0; first | rwa [add_block] at this | exact this) GW132.out)
        replace hx133_0 := (HB.out.cell (World.block_lt_of_cell? w _ hx133_0)).trans hx133_0
        replace hx133_1 := (HB.out.cell (World.block_lt_of_cell? w _ hx133_1)).trans hx133_1
        replace hx133_2 := (HB.out.cell (World.block_lt_of_cell? w _ hx133_2)).trans hx133_2
        replace hx133_0 := (cell_far (p := ⟨gb132, 0, none⟩) (by first | (rw [add_block]; exact hn133_0) | (show (Addr.add _ _).block ≠ _; rw [add_block]; exact hn133_0) | exact hn133_0) (.string a1_1)).trans hx133_0
        replace hx133_1 := (cell_far (p := ⟨gb132, 0, none⟩) (by first | (rw [add_block]; exact hn133_0) | (show (Addr.add _ _).block ≠ _; rw [add_block]; exact hn133_0) | exact hn133_0) (.string a1_1)).trans hx133_1
        replace hx133_2 := (cell_far (p := ⟨gb132, 0, none⟩) (by first | (rw [add_block]; exact hn133_0) | (show (Addr.add _ _).block ≠ _; rw [add_block]; exact hn133_0) | exact hn133_0) (.string a1_1)).trans hx133_2
        replace hx133_0 := (cell_far (p := ⟨gb132, 1, none⟩) (by first | (rw [add_block]; exact hn133_1) | (show (Addr.add _ _).block ≠ _; rw [add_block]; exact hn133_1) | exact hn133_1) (.string (⟨#[]⟩ : ByteArray))).trans hx133_0
        replace hx133_1 := (cell_far (p := ⟨gb132, 1, none⟩) (by first | (rw [add_block]; exact hn133_1) | (show (Addr.add _ _).block ≠ _; rw [add_block]; exact hn133_1) | exact hn133_1) (.string (⟨#[]⟩ : ByteArray))).trans hx133_1
        replace hx133_2 := (cell_far (p := ⟨gb132, 1, none⟩) (by first | (rw [add_block]; exact hn133_1) | (show (Addr.add _ _).block ≠ _; rw [add_block]; exact hn133_1) | exact hn133_1) (.string (⟨#[]⟩ : ByteArray))).trans hx133_2
        replace hx133_0 := (cell_far (p := ⟨gb132, 2, none⟩) (by first | (rw [add_block]; exact hn133_2) | (show (Addr.add _ _).block ≠ _; rw [add_block]; exact hn133_2) | exact hn133_2) (.int .i64 0)).trans hx133_0
        replace hx133_1 := (cell_far (p := ⟨gb132, 2, none⟩) (by first | (rw [add_block]; exact hn133_2) | (show (Addr.add _ _).block ≠ _; rw [add_block]; exact hn133_2) | exact hn133_2) (.int .i64 0)).trans hx133_1
        replace hx133_2 := (cell_far (p := ⟨gb132, 2, none⟩) (by first | (rw [add_block]; exact hn133_2) | (show (Addr.add _ _).block ≠ _; rw [add_block]; exact hn133_2) | exact hn133_2) (.int .i64 0)).trans hx133_2
        clear hn133_0 hn133_1 hn133_2
        replace p133 := eq_true p133
        replace q133 := eq_true q133
        obtain ⟨hnb65, hnc65⟩ := zn2 NB132_127
        obtain ⟨hnb66, hnc66⟩ := zn2 NB132_128
        obtain ⟨hcz67_0, hcz67_1, hcz67_2, hfz67_0, hfz67_1, hfz67_2⟩ := zc3 BK132.out
        go_wp2
        go_meet
        case rel => exact ⟨_, ((rd_T66 l0_0 t129).f0), ((rd_T66 l0_0 t129).f1), ((rd_T66 l0_0 t129).f2), H', ⟨by have := HJ3.out; first | omega | exact Nat.le_refl _⟩, ⟨zf1 BK126.out NB126_132.out⟩, ⟨zf1 BK127.out NB127_132.out⟩, ⟨zf1 BK128.out NB128_132.out⟩, ⟨by (with_reducible repeat (first | refine blk_drewN ?_ _ | refine blk_drew ?_ | refine blk_alloc ?_ _)); refine blk_put (cs := #[.string ((rd_T66 l0_0 t129).f0), .string ((rd_T66 l0_0 t129).f1), .int .i64 0]) ?_ 2 _ rfl; (with_reducible repeat (first | refine blk_drewN ?_ _ | refine blk_drew ?_ | refine blk_alloc ?_ _)); refine blk_put (cs := #[.string ((rd_T66 l0_0 t129).f0), .string (⟨#[]⟩ : ByteArray), .int .i64 0]) ?_ 1 _ rfl; (with_reducible repeat (first | refine blk_drewN ?_ _ | refine blk_drew ?_ | refine blk_alloc ?_ _)); refine blk_put (cs := #[.string a1_1, .string (⟨#[]⟩ : ByteArray), .int .i64 0]) ?_ 0 _ rfl; (with_reducible repeat (first | refine blk_drewN ?_ _ | refine blk_drew ?_ | refine blk_alloc ?_ _)); refine blk_put (cs := #[.string a1_1, .string (⟨#[]⟩ : ByteArray), .int .i64 0]) ?_ 2 _ rfl; (with_reducible repeat (first | refine blk_drewN ?_ _ | refine blk_drew ?_ | refine blk_alloc ?_ _)); refine blk_put (cs := #[.string a1_1, .string (⟨#[]⟩ : ByteArray), .int .i64 0]) ?_ 1 _ rfl; (with_reducible repeat (first | refine blk_drewN ?_ _ | refine blk_drew ?_ | refine blk_alloc ?_ _)); refine blk_put (cs := #[.string (⟨#[]⟩ : ByteArray), .string (⟨#[]⟩ : ByteArray), .int .i64 0]) ?_ 0 _ rfl; (with_reducible repeat (first | refine blk_drewN ?_ _ | refine blk_drew ?_ | refine blk_alloc ?_ _)); exact BK132.out⟩, ⟨zb4 HB.out GE126.out GE127.out GE128.out GE132.out⟩⟩
       ·rw [if_neg c60] at H
        exact absurd H (by simp)
      ·rw [if_neg c59] at H
       exact absurd H (by simp)
     ·rw [if_neg c58] at H
      have c58b0 : decide (0 ≤ t129) = false := decide_eq_false c58
      clear c58
      (first | rw [c58b0] | (simp only [i64_w, i32_w]; rw [c58b0]) | skip)
      have H' := Aside0.mk H
      clear H
      go_wp2
      go_meet
      case rel => exact ⟨_, (a1_1), ((⟨#[]⟩ : ByteArray)), (0), H', ⟨by have := HJ3.out; first | omega | exact Nat.le_refl _⟩, ⟨zf1 BK126.out NB126_132.out⟩, ⟨zf1 BK127.out NB127_132.out⟩, ⟨zf1 BK128.out NB128_132.out⟩, ⟨by (with_reducible repeat (first | refine blk_drewN ?_ _ | refine blk_drew ?_ | refine blk_alloc ?_ _)); refine blk_put (cs := #[.string a1_1, .string (⟨#[]⟩ : ByteArray), .int .i64 0]) ?_ 2 _ rfl; (with_reducible repeat (first | refine blk_drewN ?_ _ | refine blk_drew ?_ | refine blk_alloc ?_ _)); refine blk_put (cs := #[.string a1_1, .string (⟨#[]⟩ : ByteArray), .int .i64 0]) ?_ 1 _ rfl; (with_reducible repeat (first | refine blk_drewN ?_ _ | refine blk_drew ?_ | refine blk_alloc ?_ _)); refine blk_put (cs := #[.string (⟨#[]⟩ : ByteArray), .string (⟨#[]⟩ : ByteArray), .int .i64 0]) ?_ 0 _ rfl; (with_reducible repeat (first | refine blk_drewN ?_ _ | refine blk_drew ?_ | refine blk_alloc ?_ _)); exact BK132.out⟩, ⟨zb4 HB.out GE126.out GE127.out GE128.out GE132.out⟩⟩
    case rest =>
     clear HC49
     obtain ⟨kq, x133000_48, x133001_48, x133002_48, HA, HJ48, BK126, BK127, BK128, BK132, HB⟩ := hcut
     cases kq with
     | zero => exact absurd HA.out (by simp [impl_DoAct.j1])
     | succ kj48 =>
      have H := HA.out
      clear HA
      simp only [impl_DoAct.j1] at H
      by_cases c68 : a1_0 = 1
      ·rw [if_pos c68] at H
       have c68b0 : (a1_0 == 1) = true := beq_iff_eq.mpr c68
       have c68b1 : (a1_0 != 1) = false := bne_eq_false_iff_eq.mpr c68
       clear c68
       by_cases c69 : x133001_48.size + a1_2.size ≤ 9223372036854775807
       ·rw [if_pos c69] at H
        have c69b0 := eq_true c69
        have c69b1 : decide (x133001_48.size + a1_2.size ≤ 9223372036854775807) = true := decide_eq_true c69
        try have c69b2 : (9223372036854775807 < x133001_48.size + a1_2.size) = False := eq_false (Nat.not_lt.2 c69)
        replace H := Option.bind_eq_some_iff.mp H
        obtain ⟨t135, A700, H⟩ := H
        try dsimp only at H
        have A70 := Aside0.mk A700
        clear A700
        replace H := Option.bind_eq_some_iff.mp H
        obtain ⟨t138, A710, H⟩ := H
        try dsimp only at H
        have A71 := Aside0.mk A710
        clear A710
        by_cases c72 : t138 = true
        ·subst c72
         have H1 : (some (t135, true)) = some (r1, r2) := by rw [if_pos rfl] at H; exact H
         clear H
         have H := H1
         clear H1
         simp only [Option.some.injEq, Prod.mk.injEq] at H
         obtain ⟨rfl, rfl⟩ := H
         go_wp2_with (first | ((with_reducible refine gate_dst (N := 8) rfl ?_); refine box_event rfl (N := 8) rfl (cs := #[.slice none 0 0]) (t := 31) zrun ?_; intro gb134 hg w73 hbox hb; have BK134 := am (hbox); have GW134 := zge hg (zb4 HB.out GE126.out GE127.out GE128.out GE132.out); have GE134 := zge hg (zb4 HB.out GE126.out GE127.out GE128.out GE132.out); obtain ⟨NB126_134, NB134_126⟩ := zne hg BK126; obtain ⟨NB127_134, NB134_127⟩ := zne hg BK127; obtain ⟨NB128_134, NB134_128⟩ := zne hg BK128; obtain ⟨NB132_134, NB134_132⟩ := zne hg BK132; replace BK126 := zk hb BK126; replace BK127 := zk hb BK127; replace BK128 := zk hb BK128; replace BK132 := zk hb BK132; replace HB := zs4 hb HB GE126 GE127 GE128 GE132; clear hb hbox hg; obtain ⟨hnb74, hnc74⟩ := zn2 NB134_126; obtain ⟨hnb75, hnc75⟩ := zn2 NB134_127; obtain ⟨hnb76, hnc76⟩ := zn2 NB134_128; obtain ⟨hnb77, hnc77⟩ := zn2 NB134_132; obtain ⟨hcz78_0, hfz78_0⟩ := zc1 BK134.out; obtain ⟨hnb79, hnc79⟩ := zn2 NB127_126; obtain ⟨hnb80, hnc80⟩ := zn2 NB127_128; obtain ⟨hnb81, hnc81⟩ := zn2 NB127_132; obtain ⟨hcz82_0, hcz82_1, hcz82_2, hcz82_3, hfz82_0, hfz82_1, hfz82_2, hfz82_3⟩ := zc4 BK127.out; obtain ⟨hnb83, hnc83⟩ := zn2 NB132_126; obtain ⟨hnb84, hnc84⟩ := zn2 NB132_128; obtain ⟨hcz85_0, hcz85_1, hcz85_2, hfz85_0, hfz85_1, hfz85_2⟩ := zc3 BK132.out; obtain ⟨hnb86, hnc86⟩ := zn2 NB126_128; obtain ⟨hcz87_0, hfz87_0⟩ := zc1 BK126.out) | ((with_reducible refine gate_callee (f := 41) rfl ?_); refine goesL_ (some 58) rfl rfl Try.func41 (by kernel_rfl) rfl #[.agg #[.slice A0_0 l0_0.length c0_0], .agg #[.string x133000_48, .string (x133001_48 ++ a1_2), .int .i64 x133002_48]] rfl zr ?_; (with_reducible refine (impl_withFile.calls _ _ l0_0 x133000_48 (x133001_48 ++ a1_2) x133002_48 t135 _ ?side1 ?side2 A70.out).mono ?_); (case side1 => exact Kd.C_below HR0_0.out (zb5 HB.out GE126.out GE127.out GE128.out GE132.out GE134.out)); (case side2 => exact HC0_0.out); rintro e w88 ⟨v136, rfl, ho0, hb⟩; refine ⟨_, rfl, ?_⟩; have HO137 := am (Kd.R_lower (Kd.R_newB ho0 (g := gb132) (o := .cells #[.string x133000_48, .string (x133001_48 ++ a1_2), .int .i64 x133002_48] 66 (0, 0)) (zp1 BK132.out NB132_134.out)) (below_size (zb5 HB.out GE126.out GE127.out GE128.out GE132.out GE134.out))); replace BK126 := zh2 hb BK126 NB126_132 NB126_134; replace BK127 := zh2 hb BK127 NB127_132 NB127_134; replace BK128 := zh2 hb BK128 NB128_132 NB128_134; replace BK132 := am (blk_below (g := gb132) (o := .cells #[.string x133000_48, .string (x133001_48 ++ a1_2), .int .i64 x133002_48] 66 (0, 0)) (zp1 BK132.out NB132_134.out) hb); replace BK134 := am (blk_below (g := gb134) (o := .cells #[.slice none 0 0] 31 (0, 0)) (zp1 BK134.out NB134_132.out) hb); replace HB := zs5 hb HB GE126 GE127 GE128 GE132 GE134; clear hb ho0; obtain ⟨Ao89, co89, eo89⟩ := Kd.R_slice HO137.out; subst eo89; obtain ⟨hcz90_0, hfz90_0⟩ := zc1 BK134.out) | ((with_reducible refine gate_callee (f := 39) rfl ?_); refine goesL_ (some 94) rfl rfl Try.func39 (by kernel_rfl) rfl #[.agg #[.slice Ao89 t135.length co89]] rfl zr ?_; (with_reducible refine (impl_DiskOk.calls kj48 _ _ t135 true _ ?side1 ?side2 A71.out).mono ?_); (case side1 => refine (Kd.R_reads' (e := 66) (base := w.heap.size) (ok := fun k_ => (True ∧ k_ ≠ gb132)) (n := t135.length) (c := co89) ?_).2.2; exact (rx ((zrf 0 (.slice Ao89 t135.length co89) HO137 BK134)))); (case side2 => exact (Kd.R_reads' HO137.out).2.1); rintro e w91 ⟨rfl, hb⟩; refine ⟨_, rfl, ?_⟩; replace HO137 := am (Kd.R_below (rx ((zrf 0 (.slice Ao89 t135.length co89) HO137 BK134))) hb); replace BK126 := zh1 hb BK126 NB126_134; replace BK127 := zh1 hb BK127 NB127_134; replace BK128 := zh1 hb BK128 NB128_134; replace BK132 := zh1 hb BK132 NB132_134; replace BK134 := am (blk_below (g := gb134) (o := .cells #[.slice Ao89 t135.length co89] 31 (0, 0)) (zp0 BK134.out) hb); replace HB := zs5 hb HB GE126 GE127 GE128 GE132 GE134; clear hb; obtain ⟨hcz92_0, hfz92_0⟩ := zc1 BK134.out; obtain ⟨hcz93_0, hfz93_0⟩ := zc1 BK128.out))
         refine bodyPost_ret (results_ct rfl _ _ gb128 31 #[.slice Ao89 t135.length co89] (0, 0) _ rfl (zp0 BK128.out) Try.underlying31 rfl (by kernel_rfl)) rfl ?_
         exact ⟨_, by first | rfl | (simp [errW_none, errW_some] <;> rfl) | (simp [*, errW_none, errW_some] <;> rfl), rx (Kd.R_mono (Kd.R_far (p := ⟨gb128, 0, none⟩) (Kd.R_types HO137.out BK128.out (by decide)) (fun _ hk => hk.2) (.slice Ao89 t135.length co89)) (fun _ hk => trivial)), zb5 HB.out GE126.out GE127.out GE128.out GE132.out GE134.out⟩
        ·replace c72 := Bool.eq_false_iff.mpr c72
         subst c72
         have H1 : (some (([] : List (S66)), false)) = some (r1, r2) := by rw [if_neg (show ¬ (false = true) by decide)] at H; exact H
         clear H
         have H := H1
         clear H1
         simp only [Option.some.injEq, Prod.mk.injEq] at H
         obtain ⟨rfl, rfl⟩ := H
         go_wp2_with (first | ((with_reducible refine gate_dst (N := 8) rfl ?_); refine box_event rfl (N := 8) rfl (cs := #[.slice none 0 0]) (t := 31) zrun ?_; intro gb134 hg w94 hbox hb; have BK134 := am (hbox); have GW134 := zge hg (zb4 HB.out GE126.out GE127.out GE128.out GE132.out); have GE134 := zge hg (zb4 HB.out GE126.out GE127.out GE128.out GE132.out); obtain ⟨NB126_134, NB134_126⟩ := zne hg BK126; obtain ⟨NB127_134, NB134_127⟩ := zne hg BK127; obtain ⟨NB128_134, NB134_128⟩ := zne hg BK128; obtain ⟨NB132_134, NB134_132⟩ := zne hg BK132; replace BK126 := zk hb BK126; replace BK127 := zk hb BK127; replace BK128 := zk hb BK128; replace BK132 := zk hb BK132; replace HB := zs4 hb HB GE126 GE127 GE128 GE132; clear hb hbox hg; obtain ⟨hnb95, hnc95⟩ := zn2 NB134_126; obtain ⟨hnb96, hnc96⟩ := zn2 NB134_127; obtain ⟨hnb97, hnc97⟩ := zn2 NB134_128; obtain ⟨hnb98, hnc98⟩ := zn2 NB134_132; obtain ⟨hcz99_0, hfz99_0⟩ := zc1 BK134.out; obtain ⟨hnb100, hnc100⟩ := zn2 NB127_126; obtain ⟨hnb101, hnc101⟩ := zn2 NB127_128; obtain ⟨hnb102, hnc102⟩ := zn2 NB127_132; obtain ⟨hcz103_0, hcz103_1, hcz103_2, hcz103_3, hfz103_0, hfz103_1, hfz103_2, hfz103_3⟩ := zc4 BK127.out; obtain ⟨hnb104, hnc104⟩ := zn2 NB132_126; obtain ⟨hnb105, hnc105⟩ := zn2 NB132_128; obtain ⟨hcz106_0, hcz106_1, hcz106_2, hfz106_0, hfz106_1, hfz106_2⟩ := zc3 BK132.out; obtain ⟨hnb107, hnc107⟩ := zn2 NB126_128; obtain ⟨hcz108_0, hfz108_0⟩ := zc1 BK126.out) | ((with_reducible refine gate_callee (f := 41) rfl ?_); refine goesL_ (some 58) rfl rfl Try.func41 (by kernel_rfl) rfl #[.agg #[.slice A0_0 l0_0.length c0_0], .agg #[.string x133000_48, .string (x133001_48 ++ a1_2), .int .i64 x133002_48]] rfl zr ?_; (with_reducible refine (impl_withFile.calls _ _ l0_0 x133000_48 (x133001_48 ++ a1_2) x133002_48 t135 _ ?side1 ?side2 A70.out).mono ?_); (case side1 => exact Kd.C_below HR0_0.out (zb5 HB.out GE126.out GE127.out GE128.out GE132.out GE134.out)); (case side2 => exact HC0_0.out); rintro e w109 ⟨v136, rfl, ho0, hb⟩; refine ⟨_, rfl, ?_⟩; have HO137 := am (Kd.R_lower (Kd.R_newB ho0 (g := gb132) (o := .cells #[.string x133000_48, .string (x133001_48 ++ a1_2), .int .i64 x133002_48] 66 (0, 0)) (zp1 BK132.out NB132_134.out)) (below_size (zb5 HB.out GE126.out GE127.out GE128.out GE132.out GE134.out))); replace BK126 := zh2 hb BK126 NB126_132 NB126_134; replace BK127 := zh2 hb BK127 NB127_132 NB127_134; replace BK128 := zh2 hb BK128 NB128_132 NB128_134; replace BK132 := am (blk_below (g := gb132) (o := .cells #[.string x133000_48, .string (x133001_48 ++ a1_2), .int .i64 x133002_48] 66 (0, 0)) (zp1 BK132.out NB132_134.out) hb); replace BK134 := am (blk_below (g := gb134) (o := .cells #[.slice none 0 0] 31 (0, 0)) (zp1 BK134.out NB134_132.out) hb); replace HB := zs5 hb HB GE126 GE127 GE128 GE132 GE134; clear hb ho0; obtain ⟨Ao110, co110, eo110⟩ := Kd.R_slice HO137.out; subst eo110; obtain ⟨hcz111_0, hfz111_0⟩ := zc1 BK134.out) | ((with_reducible refine gate_callee (f := 39) rfl ?_); refine goesL_ (some 94) rfl rfl Try.func39 (by kernel_rfl) rfl #[.agg #[.slice Ao110 t135.length co110]] rfl zr ?_; (with_reducible refine (impl_DiskOk.calls kj48 _ _ t135 false _ ?side1 ?side2 A71.out).mono ?_); (case side1 => refine (Kd.R_reads' (e := 66) (base := w.heap.size) (ok := fun k_ => (True ∧ k_ ≠ gb132)) (n := t135.length) (c := co110) ?_).2.2; exact (rx ((zrf 0 (.slice Ao110 t135.length co110) HO137 BK134)))); (case side2 => exact (Kd.R_reads' HO137.out).2.1); rintro e w112 ⟨rfl, hb⟩; refine ⟨_, rfl, ?_⟩; replace HO137 := am (Kd.R_below (rx ((zrf 0 (.slice Ao110 t135.length co110) HO137 BK134))) hb); replace BK126 := zh1 hb BK126 NB126_134; replace BK127 := zh1 hb BK127 NB127_134; replace BK128 := zh1 hb BK128 NB128_134; replace BK132 := zh1 hb BK132 NB132_134; replace BK134 := am (blk_below (g := gb134) (o := .cells #[.slice Ao110 t135.length co110] 31 (0, 0)) (zp0 BK134.out) hb); replace HB := zs5 hb HB GE126 GE127 GE128 GE132 GE134; clear hb; obtain ⟨hcz113_0, hfz113_0⟩ := zc1 BK128.out))
         refine bodyPost_ret (results_ct rfl _ _ gb128 31 #[.slice none 0 0] (0, 0) _ rfl (zp0 BK128.out) Try.underlying31 rfl (by kernel_rfl)) rfl ?_
         exact ⟨_, by first | rfl | (simp [errW_none, errW_some] <;> rfl) | (simp [*, errW_none, errW_some] <;> rfl), by first | exact Kd.R_nil _ _ _ _ _ | exact Kd.N_nil _ _ _ _ _ | exact Kd.V_nil _ _ _ _ _ | exact Kd.Q_nil _ _ _ _ _ | exact Kd.S_nil _ _ _ _ _, zb5 HB.out GE126.out GE127.out GE128.out GE132.out GE134.out⟩
       ·rw [if_neg c69] at H
        exact absurd H (by simp)
      ·rw [if_neg c68] at H
       have c68b0 : (a1_0 == 1) = false := beq_eq_false_iff_ne.mpr c68
       have c68b1 : (a1_0 != 1) = true := bne_iff_ne.mpr c68
       by_cases c114 : a1_0 = 2
       ·rw [if_pos c114] at H
        have c114b0 : (a1_0 == 2) = true := beq_iff_eq.mpr c114
        have c114b1 : (a1_0 != 2) = false := bne_eq_false_iff_eq.mpr c114
        clear c114
        replace H := Option.bind_eq_some_iff.mp H
        obtain ⟨t139, A1150, H⟩ := H
        try dsimp only at H
        have A115 := Aside0.mk A1150
        clear A1150
        replace H := Option.bind_eq_some_iff.mp H
        obtain ⟨t142, A1160, H⟩ := H
        try dsimp only at H
        have A116 := Aside0.mk A1160
        clear A1160
        by_cases c117 : t142 = true
        ·subst c117
         have H1 : (some (t139, true)) = some (r1, r2) := by rw [if_pos rfl] at H; exact H
         clear H
         have H := H1
         clear H1
         simp only [Option.some.injEq, Prod.mk.injEq] at H
         obtain ⟨rfl, rfl⟩ := H
         go_wp2_with (first | ((with_reducible refine gate_dst (N := 8) rfl ?_); refine box_event rfl (N := 8) rfl (cs := #[.slice none 0 0]) (t := 31) zrun ?_; intro gb134 hg w118 hbox hb; have BK134 := am (hbox); have GW134 := zge hg (zb4 HB.out GE126.out GE127.out GE128.out GE132.out); have GE134 := zge hg (zb4 HB.out GE126.out GE127.out GE128.out GE132.out); obtain ⟨NB126_134, NB134_126⟩ := zne hg BK126; obtain ⟨NB127_134, NB134_127⟩ := zne hg BK127; obtain ⟨NB128_134, NB134_128⟩ := zne hg BK128; obtain ⟨NB132_134, NB134_132⟩ := zne hg BK132; replace BK126 := zk hb BK126; replace BK127 := zk hb BK127; replace BK128 := zk hb BK128; replace BK132 := zk hb BK132; replace HB := zs4 hb HB GE126 GE127 GE128 GE132; clear hb hbox hg; obtain ⟨hnb119, hnc119⟩ := zn2 NB134_126; obtain ⟨hnb120, hnc120⟩ := zn2 NB134_127; obtain ⟨hnb121, hnc121⟩ := zn2 NB134_128; obtain ⟨hnb122, hnc122⟩ := zn2 NB134_132; obtain ⟨hcz123_0, hfz123_0⟩ := zc1 BK134.out; obtain ⟨hnb124, hnc124⟩ := zn2 NB127_126; obtain ⟨hnb125, hnc125⟩ := zn2 NB127_128; obtain ⟨hnb126, hnc126⟩ := zn2 NB127_132; obtain ⟨hcz127_0, hcz127_1, hcz127_2, hcz127_3, hfz127_0, hfz127_1, hfz127_2, hfz127_3⟩ := zc4 BK127.out; obtain ⟨hnb128, hnc128⟩ := zn2 NB132_126; obtain ⟨hnb129, hnc129⟩ := zn2 NB132_128; obtain ⟨hcz130_0, hcz130_1, hcz130_2, hfz130_0, hfz130_1, hfz130_2⟩ := zc3 BK132.out; obtain ⟨hnb131, hnc131⟩ := zn2 NB126_128; obtain ⟨hcz132_0, hfz132_0⟩ := zc1 BK126.out) | ((with_reducible refine gate_callee (f := 41) rfl ?_); refine goesL_ (some 67) rfl rfl Try.func41 (by kernel_rfl) rfl #[.agg #[.slice A0_0 l0_0.length c0_0], .agg #[.string x133000_48, .string x133001_48, .int .i64 (x133001_48.size : Int)]] rfl zr ?_; (with_reducible refine (impl_withFile.calls _ _ l0_0 x133000_48 x133001_48 (x133001_48.size : Int) t139 _ ?side1 ?side2 A115.out).mono ?_); (case side1 => exact Kd.C_below HR0_0.out (zb5 HB.out GE126.out GE127.out GE128.out GE132.out GE134.out)); (case side2 => exact HC0_0.out); rintro e w133 ⟨v140, rfl, ho0, hb⟩; refine ⟨_, rfl, ?_⟩; have HO141 := am (Kd.R_lower (Kd.R_newB ho0 (g := gb132) (o := .cells #[.string x133000_48, .string x133001_48, .int .i64 (x133001_48.size : Int)] 66 (0, 0)) (zp1 BK132.out NB132_134.out)) (below_size (zb5 HB.out GE126.out GE127.out GE128.out GE132.out GE134.out))); replace BK126 := zh2 hb BK126 NB126_132 NB126_134; replace BK127 := zh2 hb BK127 NB127_132 NB127_134; replace BK128 := zh2 hb BK128 NB128_132 NB128_134; replace BK132 := am (blk_below (g := gb132) (o := .cells #[.string x133000_48, .string x133001_48, .int .i64 (x133001_48.size : Int)] 66 (0, 0)) (zp1 BK132.out NB132_134.out) hb); replace BK134 := am (blk_below (g := gb134) (o := .cells #[.slice none 0 0] 31 (0, 0)) (zp1 BK134.out NB134_132.out) hb); replace HB := zs5 hb HB GE126 GE127 GE128 GE132 GE134; clear hb ho0; obtain ⟨Ao134, co134, eo134⟩ := Kd.R_slice HO141.out; subst eo134; obtain ⟨hcz135_0, hfz135_0⟩ := zc1 BK134.out) | ((with_reducible refine gate_callee (f := 39) rfl ?_); refine goesL_ (some 94) rfl rfl Try.func39 (by kernel_rfl) rfl #[.agg #[.slice Ao134 t139.length co134]] rfl zr ?_; (with_reducible refine (impl_DiskOk.calls kj48 _ _ t139 true _ ?side1 ?side2 A116.out).mono ?_); (case side1 => refine (Kd.R_reads' (e := 66) (base := w.heap.size) (ok := fun k_ => (True ∧ k_ ≠ gb132)) (n := t139.length) (c := co134) ?_).2.2; exact (rx ((zrf 0 (.slice Ao134 t139.length co134) HO141 BK134)))); (case side2 => exact (Kd.R_reads' HO141.out).2.1); rintro e w136 ⟨rfl, hb⟩; refine ⟨_, rfl, ?_⟩; replace HO141 := am (Kd.R_below (rx ((zrf 0 (.slice Ao134 t139.length co134) HO141 BK134))) hb); replace BK126 := zh1 hb BK126 NB126_134; replace BK127 := zh1 hb BK127 NB127_134; replace BK128 := zh1 hb BK128 NB128_134; replace BK132 := zh1 hb BK132 NB132_134; replace BK134 := am (blk_below (g := gb134) (o := .cells #[.slice Ao134 t139.length co134] 31 (0, 0)) (zp0 BK134.out) hb); replace HB := zs5 hb HB GE126 GE127 GE128 GE132 GE134; clear hb; obtain ⟨hcz137_0, hfz137_0⟩ := zc1 BK134.out; obtain ⟨hcz138_0, hfz138_0⟩ := zc1 BK128.out))
         refine bodyPost_ret (results_ct rfl _ _ gb128 31 #[.slice Ao134 t139.length co134] (0, 0) _ rfl (zp0 BK128.out) Try.underlying31 rfl (by kernel_rfl)) rfl ?_
         exact ⟨_, by first | rfl | (simp [errW_none, errW_some] <;> rfl) | (simp [*, errW_none, errW_some] <;> rfl), rx (Kd.R_mono (Kd.R_far (p := ⟨gb128, 0, none⟩) (Kd.R_types HO141.out BK128.out (by decide)) (fun _ hk => hk.2) (.slice Ao134 t139.length co134)) (fun _ hk => trivial)), zb5 HB.out GE126.out GE127.out GE128.out GE132.out GE134.out⟩
        ·replace c117 := Bool.eq_false_iff.mpr c117
         subst c117
         have H1 : (some (([] : List (S66)), false)) = some (r1, r2) := by rw [if_neg (show ¬ (false = true) by decide)] at H; exact H
         clear H
         have H := H1
         clear H1
         simp only [Option.some.injEq, Prod.mk.injEq] at H
         obtain ⟨rfl, rfl⟩ := H
         go_wp2_with (first | ((with_reducible refine gate_dst (N := 8) rfl ?_); refine box_event rfl (N := 8) rfl (cs := #[.slice none 0 0]) (t := 31) zrun ?_; intro gb134 hg w139 hbox hb; have BK134 := am (hbox); have GW134 := zge hg (zb4 HB.out GE126.out GE127.out GE128.out GE132.out); have GE134 := zge hg (zb4 HB.out GE126.out GE127.out GE128.out GE132.out); obtain ⟨NB126_134, NB134_126⟩ := zne hg BK126; obtain ⟨NB127_134, NB134_127⟩ := zne hg BK127; obtain ⟨NB128_134, NB134_128⟩ := zne hg BK128; obtain ⟨NB132_134, NB134_132⟩ := zne hg BK132; replace BK126 := zk hb BK126; replace BK127 := zk hb BK127; replace BK128 := zk hb BK128; replace BK132 := zk hb BK132; replace HB := zs4 hb HB GE126 GE127 GE128 GE132; clear hb hbox hg; obtain ⟨hnb140, hnc140⟩ := zn2 NB134_126; obtain ⟨hnb141, hnc141⟩ := zn2 NB134_127; obtain ⟨hnb142, hnc142⟩ := zn2 NB134_128; obtain ⟨hnb143, hnc143⟩ := zn2 NB134_132; obtain ⟨hcz144_0, hfz144_0⟩ := zc1 BK134.out; obtain ⟨hnb145, hnc145⟩ := zn2 NB127_126; obtain ⟨hnb146, hnc146⟩ := zn2 NB127_128; obtain ⟨hnb147, hnc147⟩ := zn2 NB127_132; obtain ⟨hcz148_0, hcz148_1, hcz148_2, hcz148_3, hfz148_0, hfz148_1, hfz148_2, hfz148_3⟩ := zc4 BK127.out; obtain ⟨hnb149, hnc149⟩ := zn2 NB132_126; obtain ⟨hnb150, hnc150⟩ := zn2 NB132_128; obtain ⟨hcz151_0, hcz151_1, hcz151_2, hfz151_0, hfz151_1, hfz151_2⟩ := zc3 BK132.out; obtain ⟨hnb152, hnc152⟩ := zn2 NB126_128; obtain ⟨hcz153_0, hfz153_0⟩ := zc1 BK126.out) | ((with_reducible refine gate_callee (f := 41) rfl ?_); refine goesL_ (some 67) rfl rfl Try.func41 (by kernel_rfl) rfl #[.agg #[.slice A0_0 l0_0.length c0_0], .agg #[.string x133000_48, .string x133001_48, .int .i64 (x133001_48.size : Int)]] rfl zr ?_; (with_reducible refine (impl_withFile.calls _ _ l0_0 x133000_48 x133001_48 (x133001_48.size : Int) t139 _ ?side1 ?side2 A115.out).mono ?_); (case side1 => exact Kd.C_below HR0_0.out (zb5 HB.out GE126.out GE127.out GE128.out GE132.out GE134.out)); (case side2 => exact HC0_0.out); rintro e w154 ⟨v140, rfl, ho0, hb⟩; refine ⟨_, rfl, ?_⟩; have HO141 := am (Kd.R_lower (Kd.R_newB ho0 (g := gb132) (o := .cells #[.string x133000_48, .string x133001_48, .int .i64 (x133001_48.size : Int)] 66 (0, 0)) (zp1 BK132.out NB132_134.out)) (below_size (zb5 HB.out GE126.out GE127.out GE128.out GE132.out GE134.out))); replace BK126 := zh2 hb BK126 NB126_132 NB126_134; replace BK127 := zh2 hb BK127 NB127_132 NB127_134; replace BK128 := zh2 hb BK128 NB128_132 NB128_134; replace BK132 := am (blk_below (g := gb132) (o := .cells #[.string x133000_48, .string x133001_48, .int .i64 (x133001_48.size : Int)] 66 (0, 0)) (zp1 BK132.out NB132_134.out) hb); replace BK134 := am (blk_below (g := gb134) (o := .cells #[.slice none 0 0] 31 (0, 0)) (zp1 BK134.out NB134_132.out) hb); replace HB := zs5 hb HB GE126 GE127 GE128 GE132 GE134; clear hb ho0; obtain ⟨Ao155, co155, eo155⟩ := Kd.R_slice HO141.out; subst eo155; obtain ⟨hcz156_0, hfz156_0⟩ := zc1 BK134.out) | ((with_reducible refine gate_callee (f := 39) rfl ?_); refine goesL_ (some 94) rfl rfl Try.func39 (by kernel_rfl) rfl #[.agg #[.slice Ao155 t139.length co155]] rfl zr ?_; (with_reducible refine (impl_DiskOk.calls kj48 _ _ t139 false _ ?side1 ?side2 A116.out).mono ?_); (case side1 => refine (Kd.R_reads' (e := 66) (base := w.heap.size) (ok := fun k_ => (True ∧ k_ ≠ gb132)) (n := t139.length) (c := co155) ?_).2.2; exact (rx ((zrf 0 (.slice Ao155 t139.length co155) HO141 BK134)))); (case side2 => exact (Kd.R_reads' HO141.out).2.1); rintro e w157 ⟨rfl, hb⟩; refine ⟨_, rfl, ?_⟩; replace HO141 := am (Kd.R_below (rx ((zrf 0 (.slice Ao155 t139.length co155) HO141 BK134))) hb); replace BK126 := zh1 hb BK126 NB126_134; replace BK127 := zh1 hb BK127 NB127_134; replace BK128 := zh1 hb BK128 NB128_134; replace BK132 := zh1 hb BK132 NB132_134; replace BK134 := am (blk_below (g := gb134) (o := .cells #[.slice Ao155 t139.length co155] 31 (0, 0)) (zp0 BK134.out) hb); replace HB := zs5 hb HB GE126 GE127 GE128 GE132 GE134; clear hb; obtain ⟨hcz158_0, hfz158_0⟩ := zc1 BK128.out))
         refine bodyPost_ret (results_ct rfl _ _ gb128 31 #[.slice none 0 0] (0, 0) _ rfl (zp0 BK128.out) Try.underlying31 rfl (by kernel_rfl)) rfl ?_
         exact ⟨_, by first | rfl | (simp [errW_none, errW_some] <;> rfl) | (simp [*, errW_none, errW_some] <;> rfl), by first | exact Kd.R_nil _ _ _ _ _ | exact Kd.N_nil _ _ _ _ _ | exact Kd.V_nil _ _ _ _ _ | exact Kd.Q_nil _ _ _ _ _ | exact Kd.S_nil _ _ _ _ _, zb5 HB.out GE126.out GE127.out GE128.out GE132.out GE134.out⟩
       ·rw [if_neg c114] at H
        have c114b0 : (a1_0 == 2) = false := beq_eq_false_iff_ne.mpr c114
        have c114b1 : (a1_0 != 2) = true := bne_iff_ne.mpr c114
        by_cases c159 : a1_0 = 3
        ·rw [if_pos c159] at H
         have c159b0 : (a1_0 == 3) = true := beq_iff_eq.mpr c159
         have c159b1 : (a1_0 != 3) = false := bne_eq_false_iff_eq.mpr c159
         clear c159
         have HC160 := Aside0.mk H
         clear H
         go_upto_region 17 with (first | ((with_reducible refine gate_dst (N := 8) rfl ?_); refine box_event rfl (N := 8) rfl (cs := #[.slice none 0 0]) (t := 31) zrun ?_; intro gb134 hg w161 hbox hb; have BK134 := am (hbox); have GW134 := zge hg (zb4 HB.out GE126.out GE127.out GE128.out GE132.out); have GE134 := zge hg (zb4 HB.out GE126.out GE127.out GE128.out GE132.out); obtain ⟨NB126_134, NB134_126⟩ := zne hg BK126; obtain ⟨NB127_134, NB134_127⟩ := zne hg BK127; obtain ⟨NB128_134, NB134_128⟩ := zne hg BK128; obtain ⟨NB132_134, NB134_132⟩ := zne hg BK132; replace BK126 := zk hb BK126; replace BK127 := zk hb BK127; replace BK128 := zk hb BK128; replace BK132 := zk hb BK132; replace HB := zs4 hb HB GE126 GE127 GE128 GE132; clear hb hbox hg; obtain ⟨hnb162, hnc162⟩ := zn2 NB134_126; obtain ⟨hnb163, hnc163⟩ := zn2 NB134_127; obtain ⟨hnb164, hnc164⟩ := zn2 NB134_128; obtain ⟨hnb165, hnc165⟩ := zn2 NB134_132; obtain ⟨hcz166_0, hfz166_0⟩ := zc1 BK134.out; obtain ⟨hnb167, hnc167⟩ := zn2 NB127_126; obtain ⟨hnb168, hnc168⟩ := zn2 NB127_128; obtain ⟨hnb169, hnc169⟩ := zn2 NB127_132; obtain ⟨hcz170_0, hcz170_1, hcz170_2, hcz170_3, hfz170_0, hfz170_1, hfz170_2, hfz170_3⟩ := zc4 BK127.out))
         (try simp only [Act.put, List.setIfInBounds_toArray, List.set_cons_zero, List.set_cons_succ])
         go_cut [82] (fun v82 wc => ∃ (kq : Nat) (x82_159 : Bool), v82 = .bool x82_159 ∧ Aside0 (impl_DoAct.j2 kq x82_159 l0_0 a1_0 a1_1 a1_2 a1_3 x133000_48 x133001_48 x133002_48 = some (r1, r2)) ∧ Aside0 (kq ≤ kj48) ∧ Aside0 (wc.heap[gb126]? = some (.cells #[(.slice A0_0 l0_0.length c0_0)] 31 (0, 0))) ∧ Aside0 (wc.heap[gb127]? = some (.cells #[.int .i64 a1_0, .string a1_1, .string a1_2, .string a1_3] 35 (0, 0))) ∧ Aside0 (wc.heap[gb128]? = some (.cells #[(.slice none 0 0)] 31 (0, 0))) ∧ Aside0 (wc.heap[gb132]? = some (.cells #[.string x133000_48, .string x133001_48, .int .i64 x133002_48] 66 (0, 0))) ∧ Aside0 (wc.heap[gb134]? = some (.cells #[(.slice none 0 0)] 31 (0, 0))) ∧ Aside0 (Below w.heap.size w wc))
         case first =>
          have H := HC160.out
          clear HC160
          by_cases c171 : x133002_48 = (x133001_48.size : Int)
          ·rw [if_pos c171] at H
           have c171b0 : (x133002_48 == (x133001_48.size : Int)) = true := beq_iff_eq.mpr c171
           have c171b1 : (x133002_48 != (x133001_48.size : Int)) = false := bne_eq_false_iff_eq.mpr c171
           clear c171
           (first | rw [c171b0] | (simp only [i64_w, i32_w]; rw [c171b0]) | skip)
           have H' := Aside0.mk H
           clear H
           obtain ⟨hnb172, hnc172⟩ := zn2 NB132_126
           obtain ⟨hnb173, hnc173⟩ := zn2 NB132_127
           obtain ⟨hnb174, hnc174⟩ := zn2 NB132_128
           obtain ⟨hnb175, hnc175⟩ := zn2 NB132_134
           obtain ⟨hcz176_0, hcz176_1, hcz176_2, hfz176_0, hfz176_1, hfz176_2⟩ := zc3 BK132.out
           obtain ⟨hnb177, hnc177⟩ := zn2 NB127_126
           obtain ⟨hnb178, hnc178⟩ := zn2 NB127_128
           obtain ⟨hnb179, hnc179⟩ := zn2 NB127_134
           obtain ⟨hcz180_0, hcz180_1, hcz180_2, hcz180_3, hfz180_0, hfz180_1, hfz180_2, hfz180_3⟩ := zc4 BK127.out
           go_wp2
           go_meet
           case rel => exact ⟨_, ((a1_3.toList == a1_1.toList)), (by first | rfl | (simp; done) | (simp [*]; done)), H', ⟨by have := HJ3.out; have := HJ48.out; first | omega | exact Nat.le_refl _⟩, ⟨zf1 BK126.out NB126_134.out⟩, ⟨zf1 BK127.out NB127_134.out⟩, ⟨zf1 BK128.out NB128_134.out⟩, ⟨zf1 BK132.out NB132_134.out⟩, ⟨by (with_reducible repeat (first | refine blk_drewN ?_ _ | refine blk_drew ?_ | refine blk_alloc ?_ _)); refine blk_put (cs := #[.slice none 0 0]) ?_ 0 _ rfl; (with_reducible repeat (first | refine blk_drewN ?_ _ | refine blk_drew ?_ | refine blk_alloc ?_ _)); exact BK134.out⟩, ⟨zb5 HB.out GE126.out GE127.out GE128.out GE132.out GE134.out⟩⟩
          ·rw [if_neg c171] at H
           have c171b0 : (x133002_48 == (x133001_48.size : Int)) = false := beq_eq_false_iff_ne.mpr c171
           have c171b1 : (x133002_48 != (x133001_48.size : Int)) = true := bne_iff_ne.mpr c171
           (first | rw [c171b0] | (simp only [i64_w, i32_w]; rw [c171b0]) | skip)
           have H' := Aside0.mk H
           clear H
           obtain ⟨hnb181, hnc181⟩ := zn2 NB132_126
           obtain ⟨hnb182, hnc182⟩ := zn2 NB132_127
           obtain ⟨hnb183, hnc183⟩ := zn2 NB132_128
           obtain ⟨hnb184, hnc184⟩ := zn2 NB132_134
           obtain ⟨hcz185_0, hcz185_1, hcz185_2, hfz185_0, hfz185_1, hfz185_2⟩ := zc3 BK132.out
           go_wp2
           go_meet
           case rel => exact ⟨_, (true), (by first | rfl | (simp; done) | (simp [*]; done)), H', ⟨by have := HJ3.out; have := HJ48.out; first | omega | exact Nat.le_refl _⟩, ⟨zf1 BK126.out NB126_134.out⟩, ⟨zf1 BK127.out NB127_134.out⟩, ⟨zf1 BK128.out NB128_134.out⟩, ⟨zf1 BK132.out NB132_134.out⟩, ⟨by (with_reducible repeat (first | refine blk_drewN ?_ _ | refine blk_drew ?_ | refine blk_alloc ?_ _)); refine blk_put (cs := #[.slice none 0 0]) ?_ 0 _ rfl; (with_reducible repeat (first | refine blk_drewN ?_ _ | refine blk_drew ?_ | refine blk_alloc ?_ _)); exact BK134.out⟩, ⟨zb5 HB.out GE126.out GE127.out GE128.out GE132.out GE134.out⟩⟩
         case rest =>
          clear HC160
          obtain ⟨kq, x82_159, rfl, HA, HJ159, BK126, BK127, BK128, BK132, BK134, HB⟩ := hcut
          cases kq with
          | zero => exact absurd HA.out (by simp [impl_DoAct.j2])
          | succ kj159 =>
           have H := HA.out
           clear HA
           simp only [impl_DoAct.j2] at H
           by_cases c186 : x82_159 = true
           ·subst c186
            have H1 : (some (([] : List (S66)), false)) = some (r1, r2) := by rw [if_pos rfl] at H; exact H
            clear H
            have H := H1
            clear H1
            simp only [Option.some.injEq, Prod.mk.injEq] at H
            obtain ⟨rfl, rfl⟩ := H
            obtain ⟨hnb187, hnc187⟩ := zn2 NB128_126
            obtain ⟨hnb188, hnc188⟩ := zn2 NB128_127
            obtain ⟨hnb189, hnc189⟩ := zn2 NB128_132
            obtain ⟨hnb190, hnc190⟩ := zn2 NB128_134
            obtain ⟨hcz191_0, hfz191_0⟩ := zc1 BK128.out
            go_wp2
            refine bodyPost_ret (results_ct rfl _ _ gb128 31 #[.slice none 0 0] (0, 0) _ rfl (zp0 BK128.out) Try.underlying31 rfl (by kernel_rfl)) rfl ?_
            exact ⟨_, by first | rfl | (simp [errW_none, errW_some] <;> rfl) | (simp [*, errW_none, errW_some] <;> rfl), by first | exact Kd.R_nil _ _ _ _ _ | exact Kd.N_nil _ _ _ _ _ | exact Kd.V_nil _ _ _ _ _ | exact Kd.Q_nil _ _ _ _ _ | exact Kd.S_nil _ _ _ _ _, zb5 HB.out GE126.out GE127.out GE128.out GE132.out GE134.out⟩
           ·replace c186 := Bool.eq_false_iff.mpr c186
            subst c186
            have H1 : ((impl_withoutFile.f l0_0 a1_1).bind fun t143 => ((impl_withFile.f t143 a1_3 x133001_48 x133002_48).bind fun t146 => ((impl_DiskOk.f kj159 t146).bind fun t149 => (if t149 = true then (some (t146, true)) else (some (([] : List (S66)), false)))))) = some (r1, r2) := by rw [if_neg (show ¬ (false = true) by decide)] at H; exact H
            clear H
            have H := H1
            clear H1
            replace H := Option.bind_eq_some_iff.mp H
            obtain ⟨t143, A1920, H⟩ := H
            try dsimp only at H
            have A192 := Aside0.mk A1920
            clear A1920
            replace H := Option.bind_eq_some_iff.mp H
            obtain ⟨t146, A1930, H⟩ := H
            try dsimp only at H
            have A193 := Aside0.mk A1930
            clear A1930
            replace H := Option.bind_eq_some_iff.mp H
            obtain ⟨t149, A1940, H⟩ := H
            try dsimp only at H
            have A194 := Aside0.mk A1940
            clear A1940
            have HD_ := Aside0.mk H
            clear H
            obtain ⟨hnb196, hnc196⟩ := zn2 NB127_126
            obtain ⟨hnb197, hnc197⟩ := zn2 NB127_128
            obtain ⟨hnb198, hnc198⟩ := zn2 NB127_132
            obtain ⟨hnb199, hnc199⟩ := zn2 NB127_134
            obtain ⟨hcz200_0, hcz200_1, hcz200_2, hcz200_3, hfz200_0, hfz200_1, hfz200_2, hfz200_3⟩ := zc4 BK127.out
            obtain ⟨hnb201, hnc201⟩ := zn2 NB132_126
            obtain ⟨hnb202, hnc202⟩ := zn2 NB132_128
            obtain ⟨hnb203, hnc203⟩ := zn2 NB132_134
            obtain ⟨hcz204_0, hcz204_1, hcz204_2, hfz204_0, hfz204_1, hfz204_2⟩ := zc3 BK132.out
            try go_wp2
            have n0_ : Aside0 ((wc.setCell ⟨gb132, 0, none⟩ (.string a1_3)).heap[gb126]? = some (.cells #[.slice A0_0 l0_0.length c0_0] 31 (0, 0))) := ⟨zf1 BK126.out NB126_132.out⟩
            have n1_ : Aside0 ((wc.setCell ⟨gb132, 0, none⟩ (.string a1_3)).heap[gb127]? = some (.cells #[.int .i64 a1_0, .string a1_1, .string a1_2, .string a1_3] 35 (0, 0))) := ⟨zf1 BK127.out NB127_132.out⟩
            have n2_ : Aside0 ((wc.setCell ⟨gb132, 0, none⟩ (.string a1_3)).heap[gb128]? = some (.cells #[.slice none 0 0] 31 (0, 0))) := ⟨zf1 BK128.out NB128_132.out⟩
            have n3_ : Aside0 ((wc.setCell ⟨gb132, 0, none⟩ (.string a1_3)).heap[gb132]? = some (.cells #[.string a1_3, .string x133001_48, .int .i64 x133002_48] 66 (0, 0))) := ⟨(zp0 BK132.out)⟩
            have n4_ : Aside0 ((wc.setCell ⟨gb132, 0, none⟩ (.string a1_3)).heap[gb134]? = some (.cells #[.slice none 0 0] 31 (0, 0))) := ⟨zf1 BK134.out NB134_132.out⟩
            have n5_ : Aside0 (Below w.heap.size w (wc.setCell ⟨gb132, 0, none⟩ (.string a1_3))) := ⟨zb5 HB.out GE126.out GE127.out GE128.out GE132.out GE134.out⟩
            generalize (wc.setCell ⟨gb132, 0, none⟩ (.string a1_3)) = w205 at n0_ n1_ n2_ n3_ n4_ n5_ ⊢
            have BK126 := n0_
            have BK127 := n1_
            have BK128 := n2_
            have BK132 := n3_
            have BK134 := n4_
            have HB := n5_
            clear n0_ n1_ n2_ n3_ n4_ n5_
            replace BK126 := zw BK126
            replace BK127 := zw BK127
            replace BK128 := zw BK128
            replace BK132 := zw BK132
            replace BK134 := zw BK134
            replace HB := am (below_drew1 HB.out)
            refine start_ (n := 7) (S := fun w' => w'.cell? ⟨gb126, 0, none⟩ = some (.slice A0_0 l0_0.length c0_0) ∧ w'.cell? ⟨gb127, 0, none⟩ = some (.int .i64 a1_0) ∧ w'.cell? ⟨gb127, 1, none⟩ = some (.string a1_1) ∧ w'.cell? ⟨gb127, 2, none⟩ = some (.string a1_2) ∧ w'.cell? ⟨gb127, 3, none⟩ = some (.string a1_3) ∧ w'.cell? ⟨gb132, 0, none⟩ = some (.string a1_3) ∧ w'.cell? ⟨gb132, 1, none⟩ = some (.string x133001_48) ∧ w'.cell? ⟨gb132, 2, none⟩ = some (.int .i64 x133002_48)) (ds := []) #[false, false, false, false, false, false, false] (by kernel_rfl) rfl rfl ⟨ct BK126.out 0, ct BK127.out 0, ct BK127.out 1, ct BK127.out 2, ct BK127.out 3, ct BK132.out 0, ct BK132.out 1, ct BK132.out 2⟩ (fun hHeld => ?_)
            generalize w205.drew = w206 at BK126 BK127 BK128 BK132 BK134 HB hHeld ⊢
            refine pure_ (i := 1) (N := some 88) (v := ?_) (a' := ?_) #[false, true, false, false, false, false, false] rfl rfl (by kernel_rfl) (fun _ _ _ h => h) (Or.inl ⟨by rfl, ?_⟩) ?_ ?_
            rotate_left
            ·intro w'
             go_simp
             with_reducible rfl
            rotate_left
            ·simp only [Act.put, List.setIfInBounds_toArray, List.set_cons_zero, List.set_cons_succ, i64_w, i32_w]
             rfl
            refine take_ (i := 0) (N := some 87) (v := ?_) (a' := ?_) #[true, true, false, false, false, false, false] rfl rfl (by kernel_rfl) (fun _ _ _ h => h) (Or.inl ⟨by rfl, ?_⟩) hHeld ?_ ?_
            rotate_left
            ·rintro w' ⟨s0, s1, s2, s3, s4, s5, s6, s7⟩
             go_simp
             with_reducible rfl
            rotate_left
            ·simp only [Act.put, List.setIfInBounds_toArray, List.set_cons_zero, List.set_cons_succ, i64_w, i32_w]
             rfl
            refine take_ (i := 2) (N := some 89) (v := ?_) (a' := ?_) #[true, true, true, false, false, false, false] rfl rfl (by kernel_rfl) (fun _ _ _ h => h) (Or.inl ⟨by rfl, ?_⟩) hHeld ?_ ?_
            rotate_left
            ·rintro w' ⟨s0, s1, s2, s3, s4, s5, s6, s7⟩
             go_simp
             with_reducible rfl
            rotate_left
            ·simp only [Act.put, List.setIfInBounds_toArray, List.set_cons_zero, List.set_cons_succ, i64_w, i32_w]
             rfl
            refine take_ (i := 4) (N := some 91) (v := ?_) (a' := ?_) #[true, true, true, false, true, false, false] rfl rfl (by kernel_rfl) (fun _ _ _ h => h) (Or.inl ⟨by rfl, ?_⟩) hHeld ?_ ?_
            rotate_left
            ·rintro w' ⟨s0, s1, s2, s3, s4, s5, s6, s7⟩
             go_simp
             with_reducible rfl
            rotate_left
            ·simp only [Act.put, List.setIfInBounds_toArray, List.set_cons_zero, List.set_cons_succ, i64_w, i32_w]
             rfl
            refine one_ (i := 3) (N := some 90) #[true, true, true, true, true, false, false] rfl rfl (by kernel_rfl) (by decide) (fun K hK => ?_)
            refine goes_ Try.func42 (by kernel_rfl) rfl #[.agg #[.slice A0_0 l0_0.length c0_0], .string a1_1] (by rfl) rfl rfl zr ?_
            with_reducible refine (impl_withoutFile.calls _ _ l0_0 a1_1 t143 _ ?side1 ?side2 A192.out).mono ?_
            (case side1 => repeat (first | exact (Kd.C_below HR0_0.out HB.out) | (with_reducible refine Kd.C_alloc ?_ _) | (with_reducible refine Kd.C_drewN ?_ _) | (with_reducible refine Kd.C_drew ?_)))
            (case side2 => exact HC0_0.out)
            rintro e w207 ⟨v144, rfl, ho0, hb⟩
            refine ⟨_, rfl, ?_⟩
            have HO145 := am (Kd.R_lower (Kd.R_newB ho0 (g := gb132) (o := .cells #[.string a1_3, .string x133001_48, .int .i64 x133002_48] 66 (0, 0)) (kx BK132.out)) (below_size (zb5 HB.out GE126.out GE127.out GE128.out GE132.out GE134.out)))
            replace BK126 := zk hb BK126
            replace BK127 := zk hb BK127
            replace BK128 := zk hb BK128
            replace BK132 := zk hb BK132
            replace BK134 := zk hb BK134
            replace HB := zs5 hb HB GE126 GE127 GE128 GE132 GE134
            obtain ⟨Ao208, co208, eo208⟩ := Kd.R_slice HO145.out
            (first | subst eo208 | (injection eo208 with f1_ f2_ f3_; have f4_ := f1_.symm; have f5_ := f3_.symm; clear f1_ f2_ f3_; subst f4_; subst f5_))
            refine hK.out _ _ ⟨ct BK126.out 0, ct BK127.out 0, ct BK127.out 1, ct BK127.out 2, ct BK127.out 3, ct BK132.out 0, ct BK132.out 1, ct BK132.out 2⟩ (fun hHeld => ?_)
            clear hK K
            refine znm 90 ?_
            refine one_ (i := 5) (N := some 92) #[true, true, true, true, true, true, false] rfl rfl (by kernel_rfl) (by decide) (fun K hK => ?_)
            refine goes_ Try.func41 (by kernel_rfl) rfl #[.agg #[.slice Ao208 t143.length co208], .agg #[.string a1_3, .string x133001_48, .int .i64 x133002_48]] (by rfl) rfl rfl zr ?_
            with_reducible refine (impl_withFile.calls _ _ t143 a1_3 x133001_48 x133002_48 t146 _ ?side1 ?side2 A193.out).mono ?_
            (case side1 => repeat (first | exact (Kd.R_reads' HO145.out).2.2 | (with_reducible refine Kd.C_alloc ?_ _) | (with_reducible refine Kd.C_drewN ?_ _) | (with_reducible refine Kd.C_drew ?_)))
            (case side2 => exact (Kd.R_reads' HO145.out).2.1)
            rintro e w209 ⟨v147, rfl, ho0, hb⟩
            refine ⟨_, rfl, ?_⟩
            have HO148 := am (Kd.R_lower (Kd.R_newB (Kd.R_new' ho0 (Kd.R_lt (rx HO145.out))) (g := gb132) (o := .cells #[.string a1_3, .string x133001_48, .int .i64 x133002_48] 66 (0, 0)) (kx BK132.out)) (below_size (zb5 HB.out GE126.out GE127.out GE128.out GE132.out GE134.out)))
            replace HO145 := am (Kd.R_elder' (rx HO145.out) (Kd.R_base ho0) hb)
            replace BK126 := zk hb BK126
            replace BK127 := zk hb BK127
            replace BK128 := zk hb BK128
            replace BK132 := zk hb BK132
            replace BK134 := zk hb BK134
            replace HB := zs5 hb HB GE126 GE127 GE128 GE132 GE134
            obtain ⟨Ao210, co210, eo210⟩ := Kd.R_slice HO148.out
            (first | subst eo210 | (injection eo210 with f1_ f2_ f3_; have f4_ := f1_.symm; have f5_ := f3_.symm; clear f1_ f2_ f3_; subst f4_; subst f5_))
            refine hK.out _ _ ⟨ct BK126.out 0, ct BK127.out 0, ct BK127.out 1, ct BK127.out 2, ct BK127.out 3, ct BK132.out 0, ct BK132.out 1, ct BK132.out 2⟩ (fun hHeld => ?_)
            clear hK K
            refine znm 92 ?_
            refine one_ (i := 6) (N := none) #[true, true, true, true, true, true, true] rfl rfl (by kernel_rfl) (by decide) (fun K hK => ?_)
            have hs211 : w209.cell? ⟨gb134, 0, none⟩ = some (.slice none 0 0) := ct BK134.out 0
            have hfs211 := blk_frozen BK134.out 0
            have hns211_0 := NB126_134.out
            have hns211_1 := NB127_134.out
            have hns211_2 := NB128_134.out
            have hns211_3 := NB132_134.out
            have hms211_0 := NB134_126.out
            have hms211_1 := NB134_127.out
            have hms211_2 := NB134_128.out
            have hms211_3 := NB134_132.out
            refine skip_ (w1 := ?_) (by rfl) rfl ?_ ?_
            rotate_left
            ·go_simp
             rfl
            refine hK.out _ _ ⟨((cell_far (p := ⟨gb134, _, none⟩) NB126_134.out _).trans (hHeld.1)), ((cell_far (p := ⟨gb134, _, none⟩) NB127_134.out _).trans (hHeld.2.1)), ((cell_far (p := ⟨gb134, _, none⟩) NB127_134.out _).trans (hHeld.2.2.1)), ((cell_far (p := ⟨gb134, _, none⟩) NB127_134.out _).trans (hHeld.2.2.2.1)), ((cell_far (p := ⟨gb134, _, none⟩) NB127_134.out _).trans (hHeld.2.2.2.2.1)), ((cell_far (p := ⟨gb134, _, none⟩) NB132_134.out _).trans (hHeld.2.2.2.2.2.1)), ((cell_far (p := ⟨gb134, _, none⟩) NB132_134.out _).trans (hHeld.2.2.2.2.2.2.1)), ((cell_far (p := ⟨gb134, _, none⟩) NB132_134.out _).trans (hHeld.2.2.2.2.2.2.2))⟩ (fun hHeld => ?_)
            clear hK K
            refine done_ (by kernel_rfl) ?_
            obtain ⟨hnb212, hnc212⟩ := zn2 NB134_126
            obtain ⟨hnb213, hnc213⟩ := zn2 NB134_128
            obtain ⟨hcz214_0, hfz214_0⟩ := zc1 BK134.out
            have H := HD_.out
            clear HD_
            by_cases c195 : t149 = true
            ·subst c195
             have H1 : (some (t146, true)) = some (r1, r2) := by rw [if_pos rfl] at H; exact H
             clear H
             have H := H1
             clear H1
             simp only [Option.some.injEq, Prod.mk.injEq] at H
             obtain ⟨rfl, rfl⟩ := H
             try go_wp2_with (first | ((with_reducible refine gate_callee (f := 39) rfl ?_); refine goesL_ (some 94) rfl rfl Try.func39 (by kernel_rfl) rfl #[.agg #[.slice Ao210 t146.length co210]] rfl zr ?_; (with_reducible refine (impl_DiskOk.calls kj159 _ _ t146 true _ ?side1 ?side2 A194.out).mono ?_); (case side1 => refine (Kd.R_reads' (e := 66) (base := w.heap.size) (ok := fun k_ => ((True ∧ some k_ ≠ (.slice Ao208 t143.length co208 : Value).ownBlock) ∧ k_ ≠ gb132)) (n := t146.length) (c := co210) ?_).2.2; exact (rx ((zrf 0 (.slice Ao210 t146.length co210) HO148 BK134)))); (case side2 => exact (Kd.R_reads' HO148.out).2.1); rintro e w215 ⟨rfl, hb⟩; refine ⟨_, rfl, ?_⟩; replace HO145 := am (Kd.R_below (rx ((zrf 0 (.slice Ao210 t146.length co210) HO145 BK134))) hb); replace HO148 := am (Kd.R_below (rx ((zrf 0 (.slice Ao210 t146.length co210) HO148 BK134))) hb); replace BK126 := zh1 hb BK126 NB126_134; replace BK127 := zh1 hb BK127 NB127_134; replace BK128 := zh1 hb BK128 NB128_134; replace BK132 := zh1 hb BK132 NB132_134; replace BK134 := am (blk_below (g := gb134) (o := .cells #[.slice Ao210 t146.length co210] 31 (0, 0)) (zp0 BK134.out) hb); replace HB := zs5 hb HB GE126 GE127 GE128 GE132 GE134; clear hb; obtain ⟨hcz216_0, hfz216_0⟩ := zc1 BK134.out; obtain ⟨hnb217, hnc217⟩ := zn2 NB128_126; obtain ⟨hcz218_0, hfz218_0⟩ := zc1 BK128.out))
             refine bodyPost_ret (results_ct rfl _ _ gb128 31 #[.slice Ao210 t146.length co210] (0, 0) _ rfl (zp0 BK128.out) Try.underlying31 rfl (by kernel_rfl)) rfl ?_
             exact ⟨_, by first | rfl | (simp [errW_none, errW_some] <;> rfl) | (simp [*, errW_none, errW_some] <;> rfl), rx (Kd.R_mono (Kd.R_far (p := ⟨gb128, 0, none⟩) (Kd.R_types HO148.out BK128.out (by decide)) (fun _ hk => hk.2) (.slice Ao210 t146.length co210)) (fun _ hk => trivial)), zb5 HB.out GE126.out GE127.out GE128.out GE132.out GE134.out⟩
            ·replace c195 := Bool.eq_false_iff.mpr c195
             subst c195
             have H1 : (some (([] : List (S66)), false)) = some (r1, r2) := by rw [if_neg (show ¬ (false = true) by decide)] at H; exact H
             clear H
             have H := H1
             clear H1
             simp only [Option.some.injEq, Prod.mk.injEq] at H
             obtain ⟨rfl, rfl⟩ := H
             try go_wp2_with (first | ((with_reducible refine gate_callee (f := 39) rfl ?_); refine goesL_ (some 94) rfl rfl Try.func39 (by kernel_rfl) rfl #[.agg #[.slice Ao210 t146.length co210]] rfl zr ?_; (with_reducible refine (impl_DiskOk.calls kj159 _ _ t146 false _ ?side1 ?side2 A194.out).mono ?_); (case side1 => refine (Kd.R_reads' (e := 66) (base := w.heap.size) (ok := fun k_ => ((True ∧ some k_ ≠ (.slice Ao208 t143.length co208 : Value).ownBlock) ∧ k_ ≠ gb132)) (n := t146.length) (c := co210) ?_).2.2; exact (rx ((zrf 0 (.slice Ao210 t146.length co210) HO148 BK134)))); (case side2 => exact (Kd.R_reads' HO148.out).2.1); rintro e w238 ⟨rfl, hb⟩; refine ⟨_, rfl, ?_⟩; replace HO145 := am (Kd.R_below (rx ((zrf 0 (.slice Ao210 t146.length co210) HO145 BK134))) hb); replace HO148 := am (Kd.R_below (rx ((zrf 0 (.slice Ao210 t146.length co210) HO148 BK134))) hb); replace BK126 := zh1 hb BK126 NB126_134; replace BK127 := zh1 hb BK127 NB127_134; replace BK128 := zh1 hb BK128 NB128_134; replace BK132 := zh1 hb BK132 NB132_134; replace BK134 := am (blk_below (g := gb134) (o := .cells #[.slice Ao210 t146.length co210] 31 (0, 0)) (zp0 BK134.out) hb); replace HB := zs5 hb HB GE126 GE127 GE128 GE132 GE134; clear hb; obtain ⟨hnb239, hnc239⟩ := zn2 NB128_126; obtain ⟨hcz240_0, hfz240_0⟩ := zc1 BK128.out))
             refine bodyPost_ret (results_ct rfl _ _ gb128 31 #[.slice none 0 0] (0, 0) _ rfl (zp0 BK128.out) Try.underlying31 rfl (by kernel_rfl)) rfl ?_
             exact ⟨_, by first | rfl | (simp [errW_none, errW_some] <;> rfl) | (simp [*, errW_none, errW_some] <;> rfl), by first | exact Kd.R_nil _ _ _ _ _ | exact Kd.N_nil _ _ _ _ _ | exact Kd.V_nil _ _ _ _ _ | exact Kd.Q_nil _ _ _ _ _ | exact Kd.S_nil _ _ _ _ _, zb5 HB.out GE126.out GE127.out GE128.out GE132.out GE134.out⟩
        ·rw [if_neg c159] at H
         have c159b0 : (a1_0 == 3) = false := beq_eq_false_iff_ne.mpr c159
         have c159b1 : (a1_0 != 3) = true := bne_iff_ne.mpr c159
         replace H := Option.bind_eq_some_iff.mp H
         obtain ⟨t150, A2410, H⟩ := H
         try dsimp only at H
         have A241 := Aside0.mk A2410
         clear A2410
         replace H := Option.bind_eq_some_iff.mp H
         obtain ⟨t153, A2420, H⟩ := H
         try dsimp only at H
         have A242 := Aside0.mk A2420
         clear A2420
         by_cases c243 : t153 = true
         ·subst c243
          have H1 : (some (t150, true)) = some (r1, r2) := by rw [if_pos rfl] at H; exact H
          clear H
          have H := H1
          clear H1
          simp only [Option.some.injEq, Prod.mk.injEq] at H
          obtain ⟨rfl, rfl⟩ := H
          go_wp2_with (first | ((with_reducible refine gate_dst (N := 8) rfl ?_); refine box_event rfl (N := 8) rfl (cs := #[.slice none 0 0]) (t := 31) zrun ?_; intro gb134 hg w244 hbox hb; have BK134 := am (hbox); have GW134 := zge hg (zb4 HB.out GE126.out GE127.out GE128.out GE132.out); have GE134 := zge hg (zb4 HB.out GE126.out GE127.out GE128.out GE132.out); obtain ⟨NB126_134, NB134_126⟩ := zne hg BK126; obtain ⟨NB127_134, NB134_127⟩ := zne hg BK127; obtain ⟨NB128_134, NB134_128⟩ := zne hg BK128; obtain ⟨NB132_134, NB134_132⟩ := zne hg BK132; replace BK126 := zk hb BK126; replace BK127 := zk hb BK127; replace BK128 := zk hb BK128; replace BK132 := zk hb BK132; replace HB := zs4 hb HB GE126 GE127 GE128 GE132; clear hb hbox hg; obtain ⟨hnb245, hnc245⟩ := zn2 NB134_126; obtain ⟨hnb246, hnc246⟩ := zn2 NB134_127; obtain ⟨hnb247, hnc247⟩ := zn2 NB134_128; obtain ⟨hnb248, hnc248⟩ := zn2 NB134_132; obtain ⟨hcz249_0, hfz249_0⟩ := zc1 BK134.out; obtain ⟨hnb250, hnc250⟩ := zn2 NB127_126; obtain ⟨hnb251, hnc251⟩ := zn2 NB127_128; obtain ⟨hnb252, hnc252⟩ := zn2 NB127_132; obtain ⟨hcz253_0, hcz253_1, hcz253_2, hcz253_3, hfz253_0, hfz253_1, hfz253_2, hfz253_3⟩ := zc4 BK127.out; obtain ⟨hnb254, hnc254⟩ := zn2 NB126_128; obtain ⟨hnb255, hnc255⟩ := zn2 NB126_132; obtain ⟨hcz256_0, hfz256_0⟩ := zc1 BK126.out) | ((with_reducible refine gate_callee (f := 42) rfl ?_); refine goesL_ (some 47) rfl rfl Try.func42 (by kernel_rfl) rfl #[.agg #[.slice A0_0 l0_0.length c0_0], .string a1_1] rfl zr ?_; (with_reducible refine (impl_withoutFile.calls _ _ l0_0 a1_1 t150 _ ?side1 ?side2 A241.out).mono ?_); (case side1 => exact Kd.C_below HR0_0.out (zb5 HB.out GE126.out GE127.out GE128.out GE132.out GE134.out)); (case side2 => exact HC0_0.out); rintro e w257 ⟨v151, rfl, ho0, hb⟩; refine ⟨_, rfl, ?_⟩; have HO152 := am (Kd.R_lower (Kd.R_newB ho0 (g := gb132) (o := .cells #[.string x133000_48, .string x133001_48, .int .i64 x133002_48] 66 (0, 0)) (zf1 BK132.out NB132_134.out)) (below_size (zb5 HB.out GE126.out GE127.out GE128.out GE132.out GE134.out))); replace BK126 := zh1 hb BK126 NB126_134; replace BK127 := zh1 hb BK127 NB127_134; replace BK128 := zh1 hb BK128 NB128_134; replace BK132 := zh1 hb BK132 NB132_134; replace BK134 := am (blk_below (g := gb134) (o := .cells #[.slice none 0 0] 31 (0, 0)) (zp0 BK134.out) hb); replace HB := zs5 hb HB GE126 GE127 GE128 GE132 GE134; clear hb ho0; obtain ⟨Ao258, co258, eo258⟩ := Kd.R_slice HO152.out; subst eo258; obtain ⟨hcz259_0, hfz259_0⟩ := zc1 BK134.out) | ((with_reducible refine gate_callee (f := 39) rfl ?_); refine goesL_ (some 94) rfl rfl Try.func39 (by kernel_rfl) rfl #[.agg #[.slice Ao258 t150.length co258]] rfl zr ?_; (with_reducible refine (impl_DiskOk.calls kj48 _ _ t150 true _ ?side1 ?side2 A242.out).mono ?_); (case side1 => refine (Kd.R_reads' (e := 66) (base := w.heap.size) (ok := fun k_ => (True ∧ k_ ≠ gb132)) (n := t150.length) (c := co258) ?_).2.2; exact (rx ((zrf 0 (.slice Ao258 t150.length co258) HO152 BK134)))); (case side2 => exact (Kd.R_reads' HO152.out).2.1); rintro e w260 ⟨rfl, hb⟩; refine ⟨_, rfl, ?_⟩; replace HO152 := am (Kd.R_below (rx ((zrf 0 (.slice Ao258 t150.length co258) HO152 BK134))) hb); replace BK126 := zh1 hb BK126 NB126_134; replace BK127 := zh1 hb BK127 NB127_134; replace BK128 := zh1 hb BK128 NB128_134; replace BK132 := zh1 hb BK132 NB132_134; replace BK134 := am (blk_below (g := gb134) (o := .cells #[.slice Ao258 t150.length co258] 31 (0, 0)) (zp0 BK134.out) hb); replace HB := zs5 hb HB GE126 GE127 GE128 GE132 GE134; clear hb; obtain ⟨hcz261_0, hfz261_0⟩ := zc1 BK134.out; obtain ⟨hnb262, hnc262⟩ := zn2 NB128_132; obtain ⟨hcz263_0, hfz263_0⟩ := zc1 BK128.out))
          refine bodyPost_ret (results_ct rfl _ _ gb128 31 #[.slice Ao258 t150.length co258] (0, 0) _ rfl (zp0 BK128.out) Try.underlying31 rfl (by kernel_rfl)) rfl ?_
          exact ⟨_, by first | rfl | (simp [errW_none, errW_some] <;> rfl) | (simp [*, errW_none, errW_some] <;> rfl), rx (Kd.R_mono (Kd.R_far (p := ⟨gb128, 0, none⟩) (Kd.R_types HO152.out BK128.out (by decide)) (fun _ hk => hk.2) (.slice Ao258 t150.length co258)) (fun _ hk => trivial)), zb5 HB.out GE126.out GE127.out GE128.out GE132.out GE134.out⟩
         ·replace c243 := Bool.eq_false_iff.mpr c243
          subst c243
          have H1 : (some (([] : List (S66)), false)) = some (r1, r2) := by rw [if_neg (show ¬ (false = true) by decide)] at H; exact H
          clear H
          have H := H1
          clear H1
          simp only [Option.some.injEq, Prod.mk.injEq] at H
          obtain ⟨rfl, rfl⟩ := H
          go_wp2_with (first | ((with_reducible refine gate_dst (N := 8) rfl ?_); refine box_event rfl (N := 8) rfl (cs := #[.slice none 0 0]) (t := 31) zrun ?_; intro gb134 hg w264 hbox hb; have BK134 := am (hbox); have GW134 := zge hg (zb4 HB.out GE126.out GE127.out GE128.out GE132.out); have GE134 := zge hg (zb4 HB.out GE126.out GE127.out GE128.out GE132.out); obtain ⟨NB126_134, NB134_126⟩ := zne hg BK126; obtain ⟨NB127_134, NB134_127⟩ := zne hg BK127; obtain ⟨NB128_134, NB134_128⟩ := zne hg BK128; obtain ⟨NB132_134, NB134_132⟩ := zne hg BK132; replace BK126 := zk hb BK126; replace BK127 := zk hb BK127; replace BK128 := zk hb BK128; replace BK132 := zk hb BK132; replace HB := zs4 hb HB GE126 GE127 GE128 GE132; clear hb hbox hg; obtain ⟨hnb265, hnc265⟩ := zn2 NB134_126; obtain ⟨hnb266, hnc266⟩ := zn2 NB134_127; obtain ⟨hnb267, hnc267⟩ := zn2 NB134_128; obtain ⟨hnb268, hnc268⟩ := zn2 NB134_132; obtain ⟨hcz269_0, hfz269_0⟩ := zc1 BK134.out; obtain ⟨hnb270, hnc270⟩ := zn2 NB127_126; obtain ⟨hnb271, hnc271⟩ := zn2 NB127_128; obtain ⟨hnb272, hnc272⟩ := zn2 NB127_132; obtain ⟨hcz273_0, hcz273_1, hcz273_2, hcz273_3, hfz273_0, hfz273_1, hfz273_2, hfz273_3⟩ := zc4 BK127.out; obtain ⟨hnb274, hnc274⟩ := zn2 NB126_128; obtain ⟨hnb275, hnc275⟩ := zn2 NB126_132; obtain ⟨hcz276_0, hfz276_0⟩ := zc1 BK126.out) | ((with_reducible refine gate_callee (f := 42) rfl ?_); refine goesL_ (some 47) rfl rfl Try.func42 (by kernel_rfl) rfl #[.agg #[.slice A0_0 l0_0.length c0_0], .string a1_1] rfl zr ?_; (with_reducible refine (impl_withoutFile.calls _ _ l0_0 a1_1 t150 _ ?side1 ?side2 A241.out).mono ?_); (case side1 => exact Kd.C_below HR0_0.out (zb5 HB.out GE126.out GE127.out GE128.out GE132.out GE134.out)); (case side2 => exact HC0_0.out); rintro e w277 ⟨v151, rfl, ho0, hb⟩; refine ⟨_, rfl, ?_⟩; have HO152 := am (Kd.R_lower (Kd.R_newB ho0 (g := gb132) (o := .cells #[.string x133000_48, .string x133001_48, .int .i64 x133002_48] 66 (0, 0)) (zf1 BK132.out NB132_134.out)) (below_size (zb5 HB.out GE126.out GE127.out GE128.out GE132.out GE134.out))); replace BK126 := zh1 hb BK126 NB126_134; replace BK127 := zh1 hb BK127 NB127_134; replace BK128 := zh1 hb BK128 NB128_134; replace BK132 := zh1 hb BK132 NB132_134; replace BK134 := am (blk_below (g := gb134) (o := .cells #[.slice none 0 0] 31 (0, 0)) (zp0 BK134.out) hb); replace HB := zs5 hb HB GE126 GE127 GE128 GE132 GE134; clear hb ho0; obtain ⟨Ao278, co278, eo278⟩ := Kd.R_slice HO152.out; subst eo278; obtain ⟨hcz279_0, hfz279_0⟩ := zc1 BK134.out) | ((with_reducible refine gate_callee (f := 39) rfl ?_); refine goesL_ (some 94) rfl rfl Try.func39 (by kernel_rfl) rfl #[.agg #[.slice Ao278 t150.length co278]] rfl zr ?_; (with_reducible refine (impl_DiskOk.calls kj48 _ _ t150 false _ ?side1 ?side2 A242.out).mono ?_); (case side1 => refine (Kd.R_reads' (e := 66) (base := w.heap.size) (ok := fun k_ => (True ∧ k_ ≠ gb132)) (n := t150.length) (c := co278) ?_).2.2; exact (rx ((zrf 0 (.slice Ao278 t150.length co278) HO152 BK134)))); (case side2 => exact (Kd.R_reads' HO152.out).2.1); rintro e w280 ⟨rfl, hb⟩; refine ⟨_, rfl, ?_⟩; replace HO152 := am (Kd.R_below (rx ((zrf 0 (.slice Ao278 t150.length co278) HO152 BK134))) hb); replace BK126 := zh1 hb BK126 NB126_134; replace BK127 := zh1 hb BK127 NB127_134; replace BK128 := zh1 hb BK128 NB128_134; replace BK132 := zh1 hb BK132 NB132_134; replace BK134 := am (blk_below (g := gb134) (o := .cells #[.slice Ao278 t150.length co278] 31 (0, 0)) (zp0 BK134.out) hb); replace HB := zs5 hb HB GE126 GE127 GE128 GE132 GE134; clear hb; obtain ⟨hnb281, hnc281⟩ := zn2 NB128_132; obtain ⟨hcz282_0, hfz282_0⟩ := zc1 BK128.out))
          refine bodyPost_ret (results_ct rfl _ _ gb128 31 #[.slice none 0 0] (0, 0) _ rfl (zp0 BK128.out) Try.underlying31 rfl (by kernel_rfl)) rfl ?_
          exact ⟨_, by first | rfl | (simp [errW_none, errW_some] <;> rfl) | (simp [*, errW_none, errW_some] <;> rfl), by first | exact Kd.R_nil _ _ _ _ _ | exact Kd.N_nil _ _ _ _ _ | exact Kd.V_nil _ _ _ _ _ | exact Kd.Q_nil _ _ _ _ _ | exact Kd.S_nil _ _ _ _ _, zb5 HB.out GE126.out GE127.out GE128.out GE132.out GE134.out⟩

end Go.Proofs.Ytklbkkoojkmjbaa.QFnActs
