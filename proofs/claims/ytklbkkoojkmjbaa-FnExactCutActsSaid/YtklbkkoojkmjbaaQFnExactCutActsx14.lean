/- Written by the kit's print.py, called by our own print2.sh with one import more; not by print.sh. -/
import Derived.Test.YtklbkkoojkmjbaaQFnExactCutActsx0
import Derived.Test.YtklbkkoojkmjbaaQFnExactCutActsx10
import Derived.Test.YtklbkkoojkmjbaaQFnExactCutActsx11
import Derived.Test.YtklbkkoojkmjbaaQFnExactCutActsx12
import Derived.Test.YtklbkkoojkmjbaaQFnExactCutActsx13
namespace Go.Proofs.Ytklbkkoojkmjbaa.QFnExactCutActs
open Go.RowKit Go.Proofs.YtklbkkoojkmjbaaW.PrintWords Go.Proofs.YtklbkkoojkmjbaaW.PrintLast Go.Proofs.YtklbkkoojkmjbaaW.PrintMore
attribute [local go_sem] max2_int min2_int max_two min_two max_three min_three max_four min_four   -- for this text's walks alone
open Go.Proofs.Ytklbkkoojkmjbaa.Short
set_option linter.unusedVariables false
set_option linter.unusedSimpArgs false

/-! ### spec_DoAct: function 9 -/
mutual
def spec_DoAct.j0 : Nat → Bool → List (S66) → Int → ByteArray → ByteArray → ByteArray → Option ((List (S66)) × Bool)
 | 0, _, _, _, _, _, _ => none
 | k + 1, x37, x299000, x300000, x300001, x300002, x300003 => if x37 = true then (some (([] : List (S66)), false)) else ((spec_l03At.f k x299000 x300001).bind fun t303 => (if t303 ≥ 0 then (if 0 ≤ t303 then (if t303 < (x299000.length : Int) then (spec_DoAct.j1 k t303 x299000 x300000 x300001 x300002 x300003 ((rd_T66 x299000 t303).f0) ((rd_T66 x299000 t303).f1) ((rd_T66 x299000 t303).f2)) else (none)) else (none)) else (spec_DoAct.j1 k t303 x299000 x300000 x300001 x300002 x300003 x300001 (⟨#[]⟩ : ByteArray) 0)))
def spec_DoAct.j1 : Nat → Int → List (S66) → Int → ByteArray → ByteArray → ByteArray → ByteArray → ByteArray → Int → Option ((List (S66)) × Bool)
 | 0, _, _, _, _, _, _, _, _, _ => none
 | k + 1, x6, x299000, x300000, x300001, x300002, x300003, x305000, x305001, x305002 => if x300000 = 1 then (if x305001.size + x300002.size ≤ 9223372036854775807 then ((spec_l03Put.f k x299000 x305000 (x305001 ++ x300002) x305002).bind fun t307 => ((spec_DiskOk.f k t307).bind fun t310 => (if t310 = true then (some (t307, true)) else (some (([] : List (S66)), false))))) else (none)) else (if x6 < 0 then (some (([] : List (S66)), false)) else (if x300000 = 2 then ((spec_l03Put.f k x299000 x305000 x305001 (x305001.size : Int)).bind fun t311 => ((spec_DiskOk.f k t311).bind fun t314 => (if t314 = true then (some (t311, true)) else (some (([] : List (S66)), false))))) else (if x300000 = 3 then (if x305002 < (x305001.size : Int) then (spec_DoAct.j2 k true x299000 x300000 x300001 x300002 x300003 x305000 x305001 x305002) else (if x300003.toList = x300001.toList then (spec_DoAct.j2 k true x299000 x300000 x300001 x300002 x300003 x305000 x305001 x305002) else ((spec_l03Name.f x300003).bind fun t315 => (spec_DoAct.j2 k (!t315) x299000 x300000 x300001 x300002 x300003 x305000 x305001 x305002)))) else (if x300000 = 4 then ((spec_l03Without.f k x299000 x300001).bind fun t323 => ((spec_DiskOk.f k t323).bind fun t326 => (if t326 = true then (some (t323, true)) else (some (([] : List (S66)), false))))) else (some (([] : List (S66)), false))))))
def spec_DoAct.j2 : Nat → Bool → List (S66) → Int → ByteArray → ByteArray → ByteArray → ByteArray → ByteArray → Int → Option ((List (S66)) × Bool)
 | 0, _, _, _, _, _, _, _, _, _ => none
 | k + 1, x105, x299000, x300000, x300001, x300002, x300003, x305000, x305001, x305002 => if x105 = true then (some (([] : List (S66)), false)) else ((spec_l03Without.f k x299000 x300001).bind fun t316 => ((spec_l03Put.f k t316 x300003 x305001 x305002).bind fun t319 => ((spec_DiskOk.f k t319).bind fun t322 => (if t322 = true then (some (t319, true)) else (some (([] : List (S66)), false))))))
end
def spec_DoAct.f (k : Nat) (l0_0 : List (S66)) (a1_0 : Int) (a1_1 : ByteArray) (a1_2 : ByteArray) (a1_3 : ByteArray) : Option ((List (S66)) × Bool) := (spec_DiskOk.f k l0_0).bind fun t301 => (if t301 = true then ((spec_l03Name.f a1_1).bind fun t302 => (if t302 = true then (if a1_0 = 3 then (if a1_0 = 1 then (spec_DoAct.j0 k false l0_0 a1_0 a1_1 a1_2 a1_3) else (spec_DoAct.j0 k (a1_2.toList != ([] : List UInt8)) l0_0 a1_0 a1_1 a1_2 a1_3)) else (if a1_3.toList = ([] : List UInt8) then (if a1_0 = 1 then (spec_DoAct.j0 k false l0_0 a1_0 a1_1 a1_2 a1_3) else (spec_DoAct.j0 k (a1_2.toList != ([] : List UInt8)) l0_0 a1_0 a1_1 a1_2 a1_3)) else (spec_DoAct.j0 k true l0_0 a1_0 a1_1 a1_2 a1_3))) else (spec_DoAct.j0 k true l0_0 a1_0 a1_1 a1_2 a1_3))) else (spec_DoAct.j0 k true l0_0 a1_0 a1_1 a1_2 a1_3))
theorem spec_DoAct.mono_l : ∀ k, (∀ y0 y1 y2 y3 y4 y5, LeO (spec_DoAct.j0 k y0 y1 y2 y3 y4 y5) (spec_DoAct.j0 (k + 1) y0 y1 y2 y3 y4 y5)) ∧ (∀ y0 y1 y2 y3 y4 y5 y6 y7 y8, LeO (spec_DoAct.j1 k y0 y1 y2 y3 y4 y5 y6 y7 y8) (spec_DoAct.j1 (k + 1) y0 y1 y2 y3 y4 y5 y6 y7 y8)) ∧ (∀ y0 y1 y2 y3 y4 y5 y6 y7 y8, LeO (spec_DoAct.j2 k y0 y1 y2 y3 y4 y5 y6 y7 y8) (spec_DoAct.j2 (k + 1) y0 y1 y2 y3 y4 y5 y6 y7 y8))
 | 0 => ⟨fun _ _ _ _ _ _ r h => by simp [spec_DoAct.j0] at h, fun _ _ _ _ _ _ _ _ _ r h => by simp [spec_DoAct.j1] at h, fun _ _ _ _ _ _ _ _ _ r h => by simp [spec_DoAct.j2] at h⟩
 | k + 1 => by
  obtain ⟨ih0, ih1, ih2⟩ := spec_DoAct.mono_l k
  refine ⟨?_, ?_, ?_⟩
  ·intro y0 y1 y2 y3 y4 y5
   unfold spec_DoAct.j0
   repeat' first
   | (with_reducible exact ih0 _ _ _ _ _ _)
   | (with_reducible exact ih1 _ _ _ _ _ _ _ _ _)
   | (with_reducible exact ih2 _ _ _ _ _ _ _ _ _)
   | (with_reducible exact spec_DiskOk.mono _ _)
   | (with_reducible exact spec_l03At.mono _ _ _)
   | (with_reducible exact spec_l03Put.mono _ _ _ _ _)
   | (with_reducible exact spec_l03Without.mono _ _ _)
   | (with_reducible exact LeO.refl _)
   | (with_reducible exact LeO.none _)
   | (with_reducible refine LeO.ite ?_ ?_)
   | (with_reducible refine LeO.bind ?_ (fun _ => ?_))
   | exact ih0 _ _ _ _ _ _
   | exact ih1 _ _ _ _ _ _ _ _ _
   | exact ih2 _ _ _ _ _ _ _ _ _
   | exact spec_DiskOk.mono _ _
   | exact spec_l03At.mono _ _ _
   | exact spec_l03Put.mono _ _ _ _ _
   | exact spec_l03Without.mono _ _ _
   | exact LeO.none _
   | refine LeO.ite ?_ ?_
   | refine LeO.bind ?_ (fun _ => ?_)
  ·intro y0 y1 y2 y3 y4 y5 y6 y7 y8
   unfold spec_DoAct.j1
   repeat' first
   | (with_reducible exact ih0 _ _ _ _ _ _)
   | (with_reducible exact ih1 _ _ _ _ _ _ _ _ _)
   | (with_reducible exact ih2 _ _ _ _ _ _ _ _ _)
   | (with_reducible exact spec_DiskOk.mono _ _)
   | (with_reducible exact spec_l03At.mono _ _ _)
   | (with_reducible exact spec_l03Put.mono _ _ _ _ _)
   | (with_reducible exact spec_l03Without.mono _ _ _)
   | (with_reducible exact LeO.refl _)
   | (with_reducible exact LeO.none _)
   | (with_reducible refine LeO.ite ?_ ?_)
   | (with_reducible refine LeO.bind ?_ (fun _ => ?_))
   | exact ih0 _ _ _ _ _ _
   | exact ih1 _ _ _ _ _ _ _ _ _
   | exact ih2 _ _ _ _ _ _ _ _ _
   | exact spec_DiskOk.mono _ _
   | exact spec_l03At.mono _ _ _
   | exact spec_l03Put.mono _ _ _ _ _
   | exact spec_l03Without.mono _ _ _
   | exact LeO.none _
   | refine LeO.ite ?_ ?_
   | refine LeO.bind ?_ (fun _ => ?_)
  ·intro y0 y1 y2 y3 y4 y5 y6 y7 y8
   unfold spec_DoAct.j2
   repeat' first
   | (with_reducible exact ih0 _ _ _ _ _ _)
   | (with_reducible exact ih1 _ _ _ _ _ _ _ _ _)
   | (with_reducible exact ih2 _ _ _ _ _ _ _ _ _)
   | (with_reducible exact spec_DiskOk.mono _ _)
   | (with_reducible exact spec_l03At.mono _ _ _)
   | (with_reducible exact spec_l03Put.mono _ _ _ _ _)
   | (with_reducible exact spec_l03Without.mono _ _ _)
   | (with_reducible exact LeO.refl _)
   | (with_reducible exact LeO.none _)
   | (with_reducible refine LeO.ite ?_ ?_)
   | (with_reducible refine LeO.bind ?_ (fun _ => ?_))
   | exact ih0 _ _ _ _ _ _
   | exact ih1 _ _ _ _ _ _ _ _ _
   | exact ih2 _ _ _ _ _ _ _ _ _
   | exact spec_DiskOk.mono _ _
   | exact spec_l03At.mono _ _ _
   | exact spec_l03Put.mono _ _ _ _ _
   | exact spec_l03Without.mono _ _ _
   | exact LeO.none _
   | refine LeO.ite ?_ ?_
   | refine LeO.bind ?_ (fun _ => ?_)
theorem spec_DoAct.mono : ∀ a0 a1 a2 a3 a4 k, LeO (spec_DoAct.f k a0 a1 a2 a3 a4) (spec_DoAct.f (k + 1) a0 a1 a2 a3 a4) := by
 intro a0 a1 a2 a3 a4 k
 obtain ⟨ih0, ih1, ih2⟩ := spec_DoAct.mono_l k
 unfold spec_DoAct.f
 repeat' first
   | (with_reducible exact ih0 _ _ _ _ _ _)
   | (with_reducible exact ih1 _ _ _ _ _ _ _ _ _)
   | (with_reducible exact ih2 _ _ _ _ _ _ _ _ _)
   | (with_reducible exact spec_DiskOk.mono _ _)
   | (with_reducible exact spec_l03At.mono _ _ _)
   | (with_reducible exact spec_l03Put.mono _ _ _ _ _)
   | (with_reducible exact spec_l03Without.mono _ _ _)
   | (with_reducible exact LeO.refl _)
   | (with_reducible exact LeO.none _)
   | (with_reducible refine LeO.ite ?_ ?_)
   | (with_reducible refine LeO.bind ?_ (fun _ => ?_))
   | exact ih0 _ _ _ _ _ _
   | exact ih1 _ _ _ _ _ _ _ _ _
   | exact ih2 _ _ _ _ _ _ _ _ _
   | exact spec_DiskOk.mono _ _
   | exact spec_l03At.mono _ _ _
   | exact spec_l03Put.mono _ _ _ _ _
   | exact spec_l03Without.mono _ _ _
   | exact LeO.none _
   | refine LeO.ite ?_ ?_
   | refine LeO.bind ?_ (fun _ => ?_)
set_option maxHeartbeats 8000000 in
set_option maxRecDepth 100000 in
theorem spec_DoAct.calls (k : Nat) (A0_0 : Option Addr) (c0_0 : Nat) (l0_0 : List (S66)) (a1_0 : Int) (a1_1 : ByteArray) (a1_2 : ByteArray) (a1_3 : ByteArray) (r1 : List (S66)) (r2 : Bool) (w : World) (hr0_0 : Kd.C k66 w A0_0 l0_0.length l0_0) (hc0_0 : l0_0.length ≤ c0_0) (h : spec_DoAct.f k l0_0 a1_0 a1_1 a1_2 a1_3 = some (r1, r2)) :
  Calls Try.prog 9 #[.agg #[.slice A0_0 l0_0.length c0_0], .agg #[.int .i64 a1_0, .string a1_1, .string a1_2, .string a1_3]] w fun e w' => ∃ v0_ : Value, e = .returned (.tuple #[.agg #[v0_], .bool r2]) ∧ Kd.R k66 66 w' w.heap.size (fun _ => True) v0_ r1 ∧ Below w.heap.size w w' := by
 have hu31 := Try.underlying31
 have hu35 := Try.underlying35
 have hu66 := Try.underlying66
 have HR0_0 := Aside0.mk hr0_0
 have HC0_0 := Aside0.mk hc0_0
 clear hr0_0 hc0_0
 have HB := Aside0.mk (Below.refl w.heap.size w)
 have H : ((spec_DiskOk.f k l0_0).bind fun t301 => (if t301 = true then ((spec_l03Name.f a1_1).bind fun t302 => (if t302 = true then (if a1_0 = 3 then (if a1_0 = 1 then (spec_DoAct.j0 k false l0_0 a1_0 a1_1 a1_2 a1_3) else (spec_DoAct.j0 k (a1_2.toList != ([] : List UInt8)) l0_0 a1_0 a1_1 a1_2 a1_3)) else (if a1_3.toList = ([] : List UInt8) then (if a1_0 = 1 then (spec_DoAct.j0 k false l0_0 a1_0 a1_1 a1_2 a1_3) else (spec_DoAct.j0 k (a1_2.toList != ([] : List UInt8)) l0_0 a1_0 a1_1 a1_2 a1_3)) else (spec_DoAct.j0 k true l0_0 a1_0 a1_1 a1_2 a1_3))) else (spec_DoAct.j0 k true l0_0 a1_0 a1_1 a1_2 a1_3))) else (spec_DoAct.j0 k true l0_0 a1_0 a1_1 a1_2 a1_3))) = some (r1, r2) := h
 clear h
 have HC3 := Aside0.mk H
 clear H
 go_enter Try.func9, Try.ntmps9
 go_upto_region 1 with (first | ((with_reducible refine gate_dst (N := 2) rfl ?_); refine box_event rfl (N := 2) rfl (cs := #[.slice A0_0 l0_0.length c0_0]) (t := 31) zrun ?_; intro gb298 hg w4 hbox hb; have BK298 := am (hbox); have GE298 := zge hg (zb0 HB.out); replace HB := zs0 hb HB; clear hb hbox hg) | ((with_reducible refine gate_dst (N := 3) rfl ?_); refine box_event rfl (N := 3) rfl (cs := #[.int .i64 a1_0, .string a1_1, .string a1_2, .string a1_3]) (t := 35) zrun ?_; intro gb299 hg w5 hbox hb; have BK299 := am (hbox); have GE299 := zge hg (zb1 HB.out GE298.out); obtain ⟨NB298_299, NB299_298⟩ := zne hg BK298; replace BK298 := zk hb BK298; replace HB := zs1 hb HB GE298; clear hb hbox hg) | ((with_reducible refine gate_dst (N := 4) rfl ?_); refine box_event rfl (N := 4) rfl (cs := #[.slice none 0 0]) (t := 31) zrun ?_; intro gb300 hg w6 hbox hb; have BK300 := am (hbox); have GE300 := zge hg (zb2 HB.out GE298.out GE299.out); obtain ⟨NB298_300, NB300_298⟩ := zne hg BK298; obtain ⟨NB299_300, NB300_299⟩ := zne hg BK299; replace BK298 := zk hb BK298; replace BK299 := zk hb BK299; replace HB := zs2 hb HB GE298 GE299; clear hb hbox hg))
 (try simp only [Act.put, List.setIfInBounds_toArray, List.set_cons_zero, List.set_cons_succ])
 go_cut [37] (fun v37 wc => ∃ (kq : Nat) (x37_2 : Bool), v37 = .bool x37_2 ∧ Aside0 (spec_DoAct.j0 kq x37_2 l0_0 a1_0 a1_1 a1_2 a1_3 = some (r1, r2)) ∧ Aside0 (kq ≤ k) ∧ Aside0 (wc.heap[gb298]? = some (.cells #[(.slice A0_0 l0_0.length c0_0)] 31 (0, 0))) ∧ Aside0 (wc.heap[gb299]? = some (.cells #[.int .i64 a1_0, .string a1_1, .string a1_2, .string a1_3] 35 (0, 0))) ∧ Aside0 (wc.heap[gb300]? = some (.cells #[(.slice none 0 0)] 31 (0, 0))) ∧ Aside0 (Below w.heap.size w wc))
 case first =>
  have H := HC3.out
  clear HC3
  replace H := Option.bind_eq_some_iff.mp H
  obtain ⟨t301, A70, H⟩ := H
  try dsimp only at H
  have A7 := Aside0.mk A70
  clear A70
  by_cases c8 : t301 = true
  ·subst c8
   have H1 : ((spec_l03Name.f a1_1).bind fun t302 => (if t302 = true then (if a1_0 = 3 then (if a1_0 = 1 then (spec_DoAct.j0 k false l0_0 a1_0 a1_1 a1_2 a1_3) else (spec_DoAct.j0 k (a1_2.toList != ([] : List UInt8)) l0_0 a1_0 a1_1 a1_2 a1_3)) else (if a1_3.toList = ([] : List UInt8) then (if a1_0 = 1 then (spec_DoAct.j0 k false l0_0 a1_0 a1_1 a1_2 a1_3) else (spec_DoAct.j0 k (a1_2.toList != ([] : List UInt8)) l0_0 a1_0 a1_1 a1_2 a1_3)) else (spec_DoAct.j0 k true l0_0 a1_0 a1_1 a1_2 a1_3))) else (spec_DoAct.j0 k true l0_0 a1_0 a1_1 a1_2 a1_3))) = some (r1, r2) := by rw [if_pos rfl] at H; exact H
   clear H
   have H := H1
   clear H1
   replace H := Option.bind_eq_some_iff.mp H
   obtain ⟨t302, A90, H⟩ := H
   try dsimp only at H
   have A9 := Aside0.mk A90
   clear A90
   by_cases c10 : t302 = true
   ·subst c10
    have H1 : (if a1_0 = 3 then (if a1_0 = 1 then (spec_DoAct.j0 k false l0_0 a1_0 a1_1 a1_2 a1_3) else (spec_DoAct.j0 k (a1_2.toList != ([] : List UInt8)) l0_0 a1_0 a1_1 a1_2 a1_3)) else (if a1_3.toList = ([] : List UInt8) then (if a1_0 = 1 then (spec_DoAct.j0 k false l0_0 a1_0 a1_1 a1_2 a1_3) else (spec_DoAct.j0 k (a1_2.toList != ([] : List UInt8)) l0_0 a1_0 a1_1 a1_2 a1_3)) else (spec_DoAct.j0 k true l0_0 a1_0 a1_1 a1_2 a1_3))) = some (r1, r2) := by rw [if_pos rfl] at H; exact H
    clear H
    have H := H1
    clear H1
    by_cases c11 : a1_0 = 3
    ·rw [if_pos c11] at H
     have c11b0 : (a1_0 == 3) = true := beq_iff_eq.mpr c11
     have c11b1 : (a1_0 != 3) = false := bne_eq_false_iff_eq.mpr c11
     clear c11
     (first | rw [c11b0] | (simp only [i64_w, i32_w]; rw [c11b0]) | skip)
     by_cases c12 : a1_0 = 1
     ·rw [if_pos c12] at H
      have c12b0 : (a1_0 == 1) = true := beq_iff_eq.mpr c12
      have c12b1 : (a1_0 != 1) = false := bne_eq_false_iff_eq.mpr c12
      clear c12
      have H' := Aside0.mk H
      clear H
      obtain ⟨hnb13, hnc13⟩ := zn2 NB298_299
      obtain ⟨hnb14, hnc14⟩ := zn2 NB298_300
      obtain ⟨hcz15_0, hfz15_0⟩ := zc1 BK298.out
      go_wp2_with (first | ((with_reducible refine gate_callee (f := 32) rfl ?_); refine goesL_ (some 10) rfl rfl Try.func32 (by kernel_rfl) rfl #[.agg #[.slice A0_0 l0_0.length c0_0]] rfl zr ?_; (with_reducible refine (spec_DiskOk.calls k _ _ l0_0 true _ ?side1 ?side2 A7.out).mono ?_); (case side1 => repeat (first | exact (Kd.C_below HR0_0.out HB.out) | (with_reducible refine Kd.C_alloc ?_ _) | (with_reducible refine Kd.C_drewN ?_ _) | (with_reducible refine Kd.C_drew ?_))); (case side2 => exact HC0_0.out); rintro e w16 ⟨rfl, hb⟩; refine ⟨_, rfl, ?_⟩; replace BK298 := zk hb BK298; replace BK299 := zk hb BK299; replace BK300 := zk hb BK300; replace HB := zs3 hb HB GE298 GE299 GE300; clear hb; obtain ⟨hnb17, hnc17⟩ := zn2 NB299_300; obtain ⟨hcz18_0, hcz18_1, hcz18_2, hcz18_3, hfz18_0, hfz18_1, hfz18_2, hfz18_3⟩ := zc4 BK299.out) | (go_at_call 33; (with_reducible refine (spec_l03Name.calls a1_1 true _ A9.out).mono ?_); rintro e w' ⟨rfl, ⟨nd, rfl⟩⟩))
      go_meet
      case rel => exact ⟨_, (false), (by first | rfl | (simp; done) | (simp [*]; done)), H', ⟨by first | omega | exact Nat.le_refl _⟩, ⟨kx BK298.out⟩, ⟨kx BK299.out⟩, ⟨kx BK300.out⟩, ⟨zb3 HB.out GE298.out GE299.out GE300.out⟩⟩
     ·rw [if_neg c12] at H
      have c12b0 : (a1_0 == 1) = false := beq_eq_false_iff_ne.mpr c12
      have c12b1 : (a1_0 != 1) = true := bne_iff_ne.mpr c12
      have H' := Aside0.mk H
      clear H
      obtain ⟨hnb19, hnc19⟩ := zn2 NB298_299
      obtain ⟨hnb20, hnc20⟩ := zn2 NB298_300
      obtain ⟨hcz21_0, hfz21_0⟩ := zc1 BK298.out
      go_wp2_with (first | ((with_reducible refine gate_callee (f := 32) rfl ?_); refine goesL_ (some 10) rfl rfl Try.func32 (by kernel_rfl) rfl #[.agg #[.slice A0_0 l0_0.length c0_0]] rfl zr ?_; (with_reducible refine (spec_DiskOk.calls k _ _ l0_0 true _ ?side1 ?side2 A7.out).mono ?_); (case side1 => repeat (first | exact (Kd.C_below HR0_0.out HB.out) | (with_reducible refine Kd.C_alloc ?_ _) | (with_reducible refine Kd.C_drewN ?_ _) | (with_reducible refine Kd.C_drew ?_))); (case side2 => exact HC0_0.out); rintro e w22 ⟨rfl, hb⟩; refine ⟨_, rfl, ?_⟩; replace BK298 := zk hb BK298; replace BK299 := zk hb BK299; replace BK300 := zk hb BK300; replace HB := zs3 hb HB GE298 GE299 GE300; clear hb; obtain ⟨hnb23, hnc23⟩ := zn2 NB299_300; obtain ⟨hcz24_0, hcz24_1, hcz24_2, hcz24_3, hfz24_0, hfz24_1, hfz24_2, hfz24_3⟩ := zc4 BK299.out) | (go_at_call 33; (with_reducible refine (spec_l03Name.calls a1_1 true _ A9.out).mono ?_); rintro e w' ⟨rfl, ⟨nd, rfl⟩⟩))
      go_meet
      case rel => exact ⟨_, ((a1_2.toList != ([] : List UInt8))), (by first | rfl | (simp; done) | (simp [*]; done) | (simp; cases a1_2.toList <;> rfl)), H', ⟨by first | omega | exact Nat.le_refl _⟩, ⟨kx BK298.out⟩, ⟨kx BK299.out⟩, ⟨kx BK300.out⟩, ⟨zb3 HB.out GE298.out GE299.out GE300.out⟩⟩
    ·rw [if_neg c11] at H
     have c11b0 : (a1_0 == 3) = false := beq_eq_false_iff_ne.mpr c11
     have c11b1 : (a1_0 != 3) = true := bne_iff_ne.mpr c11
     (first | rw [c11b0] | (simp only [i64_w, i32_w]; rw [c11b0]) | skip)
     by_cases c25 : a1_3.toList = ([] : List UInt8)
     ·rw [if_pos c25] at H
      have c25b0 : (a1_3.toList == ([] : List UInt8)) = true := beq_iff_eq.mpr c25
      have c25b1 : (a1_3.toList != ([] : List UInt8)) = false := bne_eq_false_iff_eq.mpr c25
      clear c25
      by_cases c26 : a1_0 = 1
      ·rw [if_pos c26] at H
       have c26b0 : (a1_0 == 1) = true := beq_iff_eq.mpr c26
       have c26b1 : (a1_0 != 1) = false := bne_eq_false_iff_eq.mpr c26
       clear c26
       have H' := Aside0.mk H
       clear H
       obtain ⟨hnb27, hnc27⟩ := zn2 NB298_299
       obtain ⟨hnb28, hnc28⟩ := zn2 NB298_300
       obtain ⟨hcz29_0, hfz29_0⟩ := zc1 BK298.out
       go_wp2_with (first | ((with_reducible refine gate_callee (f := 32) rfl ?_); refine goesL_ (some 10) rfl rfl Try.func32 (by kernel_rfl) rfl #[.agg #[.slice A0_0 l0_0.length c0_0]] rfl zr ?_; (with_reducible refine (spec_DiskOk.calls k _ _ l0_0 true _ ?side1 ?side2 A7.out).mono ?_); (case side1 => repeat (first | exact (Kd.C_below HR0_0.out HB.out) | (with_reducible refine Kd.C_alloc ?_ _) | (with_reducible refine Kd.C_drewN ?_ _) | (with_reducible refine Kd.C_drew ?_))); (case side2 => exact HC0_0.out); rintro e w30 ⟨rfl, hb⟩; refine ⟨_, rfl, ?_⟩; replace BK298 := zk hb BK298; replace BK299 := zk hb BK299; replace BK300 := zk hb BK300; replace HB := zs3 hb HB GE298 GE299 GE300; clear hb; obtain ⟨hnb31, hnc31⟩ := zn2 NB299_300; obtain ⟨hcz32_0, hcz32_1, hcz32_2, hcz32_3, hfz32_0, hfz32_1, hfz32_2, hfz32_3⟩ := zc4 BK299.out) | (go_at_call 33; (with_reducible refine (spec_l03Name.calls a1_1 true _ A9.out).mono ?_); rintro e w' ⟨rfl, ⟨nd, rfl⟩⟩))
       go_meet
       case rel => exact ⟨_, (false), (by first | rfl | (simp; done) | (simp [*]; done)), H', ⟨by first | omega | exact Nat.le_refl _⟩, ⟨kx BK298.out⟩, ⟨kx BK299.out⟩, ⟨kx BK300.out⟩, ⟨zb3 HB.out GE298.out GE299.out GE300.out⟩⟩
      ·rw [if_neg c26] at H
       have c26b0 : (a1_0 == 1) = false := beq_eq_false_iff_ne.mpr c26
       have c26b1 : (a1_0 != 1) = true := bne_iff_ne.mpr c26
       have H' := Aside0.mk H
       clear H
       obtain ⟨hnb33, hnc33⟩ := zn2 NB298_299
       obtain ⟨hnb34, hnc34⟩ := zn2 NB298_300
       obtain ⟨hcz35_0, hfz35_0⟩ := zc1 BK298.out
       go_wp2_with (first | ((with_reducible refine gate_callee (f := 32) rfl ?_); refine goesL_ (some 10) rfl rfl Try.func32 (by kernel_rfl) rfl #[.agg #[.slice A0_0 l0_0.length c0_0]] rfl zr ?_; (with_reducible refine (spec_DiskOk.calls k _ _ l0_0 true _ ?side1 ?side2 A7.out).mono ?_); (case side1 => repeat (first | exact (Kd.C_below HR0_0.out HB.out) | (with_reducible refine Kd.C_alloc ?_ _) | (with_reducible refine Kd.C_drewN ?_ _) | (with_reducible refine Kd.C_drew ?_))); (case side2 => exact HC0_0.out); rintro e w36 ⟨rfl, hb⟩; refine ⟨_, rfl, ?_⟩; replace BK298 := zk hb BK298; replace BK299 := zk hb BK299; replace BK300 := zk hb BK300; replace HB := zs3 hb HB GE298 GE299 GE300; clear hb; obtain ⟨hnb37, hnc37⟩ := zn2 NB299_300; obtain ⟨hcz38_0, hcz38_1, hcz38_2, hcz38_3, hfz38_0, hfz38_1, hfz38_2, hfz38_3⟩ := zc4 BK299.out) | (go_at_call 33; (with_reducible refine (spec_l03Name.calls a1_1 true _ A9.out).mono ?_); rintro e w' ⟨rfl, ⟨nd, rfl⟩⟩))
       go_meet
       case rel => exact ⟨_, ((a1_2.toList != ([] : List UInt8))), (by first | rfl | (simp; done) | (simp [*]; done) | (simp; cases a1_2.toList <;> rfl)), H', ⟨by first | omega | exact Nat.le_refl _⟩, ⟨kx BK298.out⟩, ⟨kx BK299.out⟩, ⟨kx BK300.out⟩, ⟨zb3 HB.out GE298.out GE299.out GE300.out⟩⟩
     ·rw [if_neg c25] at H
      have c25b0 : (a1_3.toList == ([] : List UInt8)) = false := beq_eq_false_iff_ne.mpr c25
      have c25b1 : (a1_3.toList != ([] : List UInt8)) = true := bne_iff_ne.mpr c25
      have H' := Aside0.mk H
      clear H
      obtain ⟨hnb39, hnc39⟩ := zn2 NB298_299
      obtain ⟨hnb40, hnc40⟩ := zn2 NB298_300
      obtain ⟨hcz41_0, hfz41_0⟩ := zc1 BK298.out
      go_wp2_with (first | ((with_reducible refine gate_callee (f := 32) rfl ?_); refine goesL_ (some 10) rfl rfl Try.func32 (by kernel_rfl) rfl #[.agg #[.slice A0_0 l0_0.length c0_0]] rfl zr ?_; (with_reducible refine (spec_DiskOk.calls k _ _ l0_0 true _ ?side1 ?side2 A7.out).mono ?_); (case side1 => repeat (first | exact (Kd.C_below HR0_0.out HB.out) | (with_reducible refine Kd.C_alloc ?_ _) | (with_reducible refine Kd.C_drewN ?_ _) | (with_reducible refine Kd.C_drew ?_))); (case side2 => exact HC0_0.out); rintro e w42 ⟨rfl, hb⟩; refine ⟨_, rfl, ?_⟩; replace BK298 := zk hb BK298; replace BK299 := zk hb BK299; replace BK300 := zk hb BK300; replace HB := zs3 hb HB GE298 GE299 GE300; clear hb; obtain ⟨hnb43, hnc43⟩ := zn2 NB299_300; obtain ⟨hcz44_0, hcz44_1, hcz44_2, hcz44_3, hfz44_0, hfz44_1, hfz44_2, hfz44_3⟩ := zc4 BK299.out) | (go_at_call 33; (with_reducible refine (spec_l03Name.calls a1_1 true _ A9.out).mono ?_); rintro e w' ⟨rfl, ⟨nd, rfl⟩⟩))
      go_meet
      case rel => exact ⟨_, (true), (by first | rfl | (simp; done) | (simp [*]; done)), H', ⟨by first | omega | exact Nat.le_refl _⟩, ⟨kx BK298.out⟩, ⟨kx BK299.out⟩, ⟨kx BK300.out⟩, ⟨zb3 HB.out GE298.out GE299.out GE300.out⟩⟩
   ·replace c10 := Bool.eq_false_iff.mpr c10
    subst c10
    have H1 : (spec_DoAct.j0 k true l0_0 a1_0 a1_1 a1_2 a1_3) = some (r1, r2) := by rw [if_neg (show ¬ (false = true) by decide)] at H; exact H
    clear H
    have H := H1
    clear H1
    have H' := Aside0.mk H
    clear H
    obtain ⟨hnb45, hnc45⟩ := zn2 NB298_299
    obtain ⟨hnb46, hnc46⟩ := zn2 NB298_300
    obtain ⟨hcz47_0, hfz47_0⟩ := zc1 BK298.out
    go_wp2_with (first | ((with_reducible refine gate_callee (f := 32) rfl ?_); refine goesL_ (some 10) rfl rfl Try.func32 (by kernel_rfl) rfl #[.agg #[.slice A0_0 l0_0.length c0_0]] rfl zr ?_; (with_reducible refine (spec_DiskOk.calls k _ _ l0_0 true _ ?side1 ?side2 A7.out).mono ?_); (case side1 => repeat (first | exact (Kd.C_below HR0_0.out HB.out) | (with_reducible refine Kd.C_alloc ?_ _) | (with_reducible refine Kd.C_drewN ?_ _) | (with_reducible refine Kd.C_drew ?_))); (case side2 => exact HC0_0.out); rintro e w48 ⟨rfl, hb⟩; refine ⟨_, rfl, ?_⟩; replace BK298 := zk hb BK298; replace BK299 := zk hb BK299; replace BK300 := zk hb BK300; replace HB := zs3 hb HB GE298 GE299 GE300; clear hb; obtain ⟨hnb49, hnc49⟩ := zn2 NB299_300; obtain ⟨hcz50_0, hcz50_1, hcz50_2, hcz50_3, hfz50_0, hfz50_1, hfz50_2, hfz50_3⟩ := zc4 BK299.out) | (go_at_call 33; (with_reducible refine (spec_l03Name.calls a1_1 false _ A9.out).mono ?_); rintro e w' ⟨rfl, ⟨nd, rfl⟩⟩))
    go_meet
    case rel => exact ⟨_, (true), (by first | rfl | (simp; done) | (simp [*]; done)), H', ⟨by first | omega | exact Nat.le_refl _⟩, ⟨kx BK298.out⟩, ⟨kx BK299.out⟩, ⟨kx BK300.out⟩, ⟨zb3 HB.out GE298.out GE299.out GE300.out⟩⟩
  ·replace c8 := Bool.eq_false_iff.mpr c8
   subst c8
   have H1 : (spec_DoAct.j0 k true l0_0 a1_0 a1_1 a1_2 a1_3) = some (r1, r2) := by rw [if_neg (show ¬ (false = true) by decide)] at H; exact H
   clear H
   have H := H1
   clear H1
   have H' := Aside0.mk H
   clear H
   obtain ⟨hnb51, hnc51⟩ := zn2 NB298_299
   obtain ⟨hnb52, hnc52⟩ := zn2 NB298_300
   obtain ⟨hcz53_0, hfz53_0⟩ := zc1 BK298.out
   go_wp2_with (first | ((with_reducible refine gate_callee (f := 32) rfl ?_); refine goesL_ (some 10) rfl rfl Try.func32 (by kernel_rfl) rfl #[.agg #[.slice A0_0 l0_0.length c0_0]] rfl zr ?_; (with_reducible refine (spec_DiskOk.calls k _ _ l0_0 false _ ?side1 ?side2 A7.out).mono ?_); (case side1 => repeat (first | exact (Kd.C_below HR0_0.out HB.out) | (with_reducible refine Kd.C_alloc ?_ _) | (with_reducible refine Kd.C_drewN ?_ _) | (with_reducible refine Kd.C_drew ?_))); (case side2 => exact HC0_0.out); rintro e w54 ⟨rfl, hb⟩; refine ⟨_, rfl, ?_⟩; replace BK298 := zk hb BK298; replace BK299 := zk hb BK299; replace BK300 := zk hb BK300; replace HB := zs3 hb HB GE298 GE299 GE300; clear hb))
   go_meet
   case rel => exact ⟨_, (true), (by first | rfl | (simp; done) | (simp [*]; done)), H', ⟨by first | omega | exact Nat.le_refl _⟩, ⟨kx BK298.out⟩, ⟨kx BK299.out⟩, ⟨kx BK300.out⟩, ⟨zb3 HB.out GE298.out GE299.out GE300.out⟩⟩
 case rest =>
  clear HC3
  obtain ⟨kq, x37_2, rfl, HA, HJ2, BK298, BK299, BK300, HB⟩ := hcut
  cases kq with
  | zero => exact absurd HA.out (by simp [spec_DoAct.j0])
  | succ kj2 =>
   have H := HA.out
   clear HA
   simp only [spec_DoAct.j0] at H
   by_cases c55 : x37_2 = true
   ·subst c55
    have H1 : (some (([] : List (S66)), false)) = some (r1, r2) := by rw [if_pos rfl] at H; exact H
    clear H
    have H := H1
    clear H1
    simp only [Option.some.injEq, Prod.mk.injEq] at H
    obtain ⟨rfl, rfl⟩ := H
    obtain ⟨hnb56, hnc56⟩ := zn2 NB300_298
    obtain ⟨hnb57, hnc57⟩ := zn2 NB300_299
    obtain ⟨hcz58_0, hfz58_0⟩ := zc1 BK300.out
    go_wp2
    refine bodyPost_ret (results_ct rfl _ _ gb300 31 #[.slice none 0 0] (0, 0) _ rfl (by (with_reducible repeat (first | refine blk_drewN ?_ _ | refine blk_drew ?_ | refine blk_alloc ?_ _)); refine blk_put (cs := #[.slice none 0 0]) ?_ 0 _ rfl; (with_reducible repeat (first | refine blk_drewN ?_ _ | refine blk_drew ?_ | refine blk_alloc ?_ _)); exact BK300.out) Try.underlying31 rfl (by kernel_rfl)) rfl ?_
    exact ⟨_, by first | rfl | (simp [errW_none, errW_some] <;> rfl) | (simp [*, errW_none, errW_some] <;> rfl), by first | exact Kd.R_nil _ _ _ _ _ | exact Kd.N_nil _ _ _ _ _ | exact Kd.V_nil _ _ _ _ _ | exact Kd.Q_nil _ _ _ _ _ | exact Kd.S_nil _ _ _ _ _, zb3 HB.out GE298.out GE299.out GE300.out⟩
   ·replace c55 := Bool.eq_false_iff.mpr c55
    subst c55
    have H1 : ((spec_l03At.f kj2 l0_0 a1_1).bind fun t303 => (if t303 ≥ 0 then (if 0 ≤ t303 then (if t303 < (l0_0.length : Int) then (spec_DoAct.j1 kj2 t303 l0_0 a1_0 a1_1 a1_2 a1_3 ((rd_T66 l0_0 t303).f0) ((rd_T66 l0_0 t303).f1) ((rd_T66 l0_0 t303).f2)) else (none)) else (none)) else (spec_DoAct.j1 kj2 t303 l0_0 a1_0 a1_1 a1_2 a1_3 a1_1 (⟨#[]⟩ : ByteArray) 0))) = some (r1, r2) := by rw [if_neg (show ¬ (false = true) by decide)] at H; exact H
    clear H
    have H := H1
    clear H1
    replace H := Option.bind_eq_some_iff.mp H
    obtain ⟨t303, A590, H⟩ := H
    try dsimp only at H
    have A59 := Aside0.mk A590
    clear A590
    have HC60 := Aside0.mk H
    clear H
    obtain ⟨hnb61, hnc61⟩ := zn2 NB298_299
    obtain ⟨hnb62, hnc62⟩ := zn2 NB298_300
    obtain ⟨hcz63_0, hfz63_0⟩ := zc1 BK298.out
    obtain ⟨hnb64, hnc64⟩ := zn2 NB299_300
    obtain ⟨hcz65_0, hcz65_1, hcz65_2, hcz65_3, hfz65_0, hfz65_1, hfz65_2, hfz65_3⟩ := zc4 BK299.out
    go_upto_if 47 with (first | ((with_reducible refine gate_callee (f := 34) rfl ?_); refine goesL_ (some 42) rfl rfl Try.func34 (by kernel_rfl) rfl #[.agg #[.slice A0_0 l0_0.length c0_0], .string a1_1] rfl zr ?_; (with_reducible refine (spec_l03At.calls kj2 _ _ l0_0 a1_1 t303 _ ?side1 ?side2 A59.out).mono ?_); (case side1 => repeat (first | exact (Kd.C_below HR0_0.out HB.out) | (with_reducible refine Kd.C_alloc ?_ _) | (with_reducible refine Kd.C_drewN ?_ _) | (with_reducible refine Kd.C_drew ?_))); (case side2 => exact HC0_0.out); rintro e w66 ⟨rfl, hb⟩; refine ⟨_, rfl, ?_⟩; replace BK298 := zk hb BK298; replace BK299 := zk hb BK299; replace BK300 := zk hb BK300; replace HB := zs3 hb HB GE298 GE299 GE300; clear hb; obtain ⟨hcz67_0, hcz67_1, hcz67_2, hcz67_3, hfz67_0, hfz67_1, hfz67_2, hfz67_3⟩ := zc4 BK299.out) | ((with_reducible refine gate_dst (N := 7) rfl ?_); refine box_event rfl (N := 7) rfl (cs := #[.string (⟨#[]⟩ : ByteArray), .string (⟨#[]⟩ : ByteArray), .int .i64 0]) (t := 66) zrun ?_; intro gb304 hg w68 hbox hb; have BK304 := am (hbox); have GW304 := zge hg (zb3 HB.out GE298.out GE299.out GE300.out); have GE304 := zge hg (zb3 HB.out GE298.out GE299.out GE300.out); obtain ⟨NB298_304, NB304_298⟩ := zne hg BK298; obtain ⟨NB299_304, NB304_299⟩ := zne hg BK299; obtain ⟨NB300_304, NB304_300⟩ := zne hg BK300; replace BK298 := zk hb BK298; replace BK299 := zk hb BK299; replace BK300 := zk hb BK300; replace HB := zs3 hb HB GE298 GE299 GE300; clear hb hbox hg; obtain ⟨hnb69, hnc69⟩ := zn2 NB304_298; obtain ⟨hnb70, hnc70⟩ := zn2 NB304_299; obtain ⟨hnb71, hnc71⟩ := zn2 NB304_300; obtain ⟨hcz72_0, hcz72_1, hcz72_2, hfz72_0, hfz72_1, hfz72_2⟩ := zc3 BK304.out))
    (try simp only [Act.put, List.setIfInBounds_toArray, List.set_cons_zero, List.set_cons_succ])
    go_cut [] (fun wc => ∃ (kq : Nat) (x305000_59 : ByteArray) (x305001_59 : ByteArray) (x305002_59 : Int), Aside0 (spec_DoAct.j1 kq t303 l0_0 a1_0 a1_1 a1_2 a1_3 x305000_59 x305001_59 x305002_59 = some (r1, r2)) ∧ Aside0 (kq ≤ kj2) ∧ Aside0 (wc.heap[gb298]? = some (.cells #[(.slice A0_0 l0_0.length c0_0)] 31 (0, 0))) ∧ Aside0 (wc.heap[gb299]? = some (.cells #[.int .i64 a1_0, .string a1_1, .string a1_2, .string a1_3] 35 (0, 0))) ∧ Aside0 (wc.heap[gb300]? = some (.cells #[(.slice none 0 0)] 31 (0, 0))) ∧ Aside0 (wc.heap[gb304]? = some (.cells #[.string x305000_59, .string x305001_59, .int .i64 x305002_59] 66 (0, 0))) ∧ Aside0 (Below w.heap.size w wc))
    case first =>
     have H := HC60.out
     clear HC60
     by_cases c73 : t303 ≥ 0
     ·rw [if_pos c73] at H
      have c73b0 : decide (0 ≤ t303) = true := decide_eq_true c73
      clear c73
      (first | rw [c73b0] | (simp only [i64_w, i32_w]; rw [c73b0]) | skip)
      by_cases c74 : 0 ≤ t303
      ·rw [if_pos c74] at H
       have c74b0 : decide (0 ≤ t303) = true := decide_eq_true c74
       clear c74
       by_cases c75 : t303 < (l0_0.length : Int)
       ·rw [if_pos c75] at H
        have c75b0 : decide (t303 < (l0_0.length : Int)) = true := decide_eq_true c75
        have c75b1 : decide ((l0_0.length : Int) ≤ t303) = false := decide_eq_false (by omega)
        clear c75
        have H' := Aside0.mk H
        clear H
        obtain ⟨hnb76, hnc76⟩ := zn2 NB298_299
        obtain ⟨hnb77, hnc77⟩ := zn2 NB298_300
        obtain ⟨hnb78, hnc78⟩ := zn2 NB298_304
        obtain ⟨hcz79_0, hfz79_0⟩ := zc1 BK298.out
        have p305 : 0 ≤ (t303 : Int) := of_decide_eq_true (by first | (with_reducible assumption) | assumption)
        have q305 : t303 < (l0_0.length : Int) := of_decide_eq_true (by first | (with_reducible assumption) | assumption)
        obtain ⟨ad305, e305, hx305_0, hx305_1, hx305_2⟩ := at_T66 HR0_0.out t303 p305 q305
        cases e305
        have hn305_0 : ad305.block ≠ gb304 := Nat.ne_of_lt (Nat.lt_of_lt_of_le (by have := World.block_lt_of_cell? _ _ hx305_0; first | rwa [add_block] at this | exact this) GW304.out)
        have hn305_1 : ad305.block ≠ gb304 := Nat.ne_of_lt (Nat.lt_of_lt_of_le (by have := World.block_lt_of_cell? _ _ hx305_0; first | rwa [add_block] at this | exact this) GW304.out)
        have hn305_2 : ad305.block ≠ gb304 := Nat.ne_of_lt (Nat.lt_of_lt_of_le (by have := World.block_lt_of_cell? _ _ hx305_0; first | rwa [add_block] at this | exact this) GW304.out)
        replace hx305_0 := (HB.out.cell (World.block_lt_of_cell? w _ hx305_0)).trans hx305_0
        replace hx305_1 := (HB.out.cell (World.block_lt_of_cell? w _ hx305_1)).trans hx305_1
        replace hx305_2 := (HB.out.cell (World.block_lt_of_cell? w _ hx305_2)).trans hx305_2
        replace hx305_0 := (cell_far (p := ⟨gb304, 0, none⟩) (by first | (rw [add_block]; exact hn305_0) | (show (Addr.add _ _).block ≠ _; rw [add_block]; exact hn305_0) | exact hn305_0) (.string a1_1)).trans hx305_0
        replace hx305_1 := (cell_far (p := ⟨gb304, 0, none⟩) (by first | (rw [add_block]; exact hn305_0) | (show (Addr.add _ _).block ≠ _; rw [add_block]; exact hn305_0) | exact hn305_0) (.string a1_1)).trans hx305_1
        replace hx305_2 := (cell_far (p := ⟨gb304, 0, none⟩) (by first | (rw [add_block]; exact hn305_0) | (show (Addr.add _ _).block ≠ _; rw [add_block]; exact hn305_0) | exact hn305_0) (.string a1_1)).trans hx305_2
        replace hx305_0 := (cell_far (p := ⟨gb304, 1, none⟩) (by first | (rw [add_block]; exact hn305_1) | (show (Addr.add _ _).block ≠ _; rw [add_block]; exact hn305_1) | exact hn305_1) (.string (⟨#[]⟩ : ByteArray))).trans hx305_0
        replace hx305_1 := (cell_far (p := ⟨gb304, 1, none⟩) (by first | (rw [add_block]; exact hn305_1) | (show (Addr.add _ _).block ≠ _; rw [add_block]; exact hn305_1) | exact hn305_1) (.string (⟨#[]⟩ : ByteArray))).trans hx305_1
        replace hx305_2 := (cell_far (p := ⟨gb304, 1, none⟩) (by first | (rw [add_block]; exact hn305_1) | (show (Addr.add _ _).block ≠ _; rw [add_block]; exact hn305_1) | exact hn305_1) (.string (⟨#[]⟩ : ByteArray))).trans hx305_2
        replace hx305_0 := (cell_far (p := ⟨gb304, 2, none⟩) (by first | (rw [add_block]; exact hn305_2) | (show (Addr.add _ _).block ≠ _; rw [add_block]; exact hn305_2) | exact hn305_2) (.int .i64 0)).trans hx305_0
        replace hx305_1 := (cell_far (p := ⟨gb304, 2, none⟩) (by first | (rw [add_block]; exact hn305_2) | (show (Addr.add _ _).block ≠ _; rw [add_block]; exact hn305_2) | exact hn305_2) (.int .i64 0)).trans hx305_1
        replace hx305_2 := (cell_far (p := ⟨gb304, 2, none⟩) (by first | (rw [add_block]; exact hn305_2) | (show (Addr.add _ _).block ≠ _; rw [add_block]; exact hn305_2) | exact hn305_2) (.int .i64 0)).trans hx305_2
        clear hn305_0 hn305_1 hn305_2
        replace p305 := eq_true p305
        replace q305 := eq_true q305
        obtain ⟨hnb80, hnc80⟩ := zn2 NB304_299
        obtain ⟨hnb81, hnc81⟩ := zn2 NB304_300
        obtain ⟨hcz82_0, hcz82_1, hcz82_2, hfz82_0, hfz82_1, hfz82_2⟩ := zc3 BK304.out
        go_wp2
        go_meet
        case rel => exact ⟨_, ((rd_T66 l0_0 t303).f0), ((rd_T66 l0_0 t303).f1), ((rd_T66 l0_0 t303).f2), H', ⟨by have := HJ2.out; first | omega | exact Nat.le_refl _⟩, ⟨zf1 BK298.out NB298_304.out⟩, ⟨zf1 BK299.out NB299_304.out⟩, ⟨zf1 BK300.out NB300_304.out⟩, ⟨by (with_reducible repeat (first | refine blk_drewN ?_ _ | refine blk_drew ?_ | refine blk_alloc ?_ _)); refine blk_put (cs := #[.string ((rd_T66 l0_0 t303).f0), .string ((rd_T66 l0_0 t303).f1), .int .i64 0]) ?_ 2 _ rfl; (with_reducible repeat (first | refine blk_drewN ?_ _ | refine blk_drew ?_ | refine blk_alloc ?_ _)); refine blk_put (cs := #[.string ((rd_T66 l0_0 t303).f0), .string (⟨#[]⟩ : ByteArray), .int .i64 0]) ?_ 1 _ rfl; (with_reducible repeat (first | refine blk_drewN ?_ _ | refine blk_drew ?_ | refine blk_alloc ?_ _)); refine blk_put (cs := #[.string a1_1, .string (⟨#[]⟩ : ByteArray), .int .i64 0]) ?_ 0 _ rfl; (with_reducible repeat (first | refine blk_drewN ?_ _ | refine blk_drew ?_ | refine blk_alloc ?_ _)); refine blk_put (cs := #[.string a1_1, .string (⟨#[]⟩ : ByteArray), .int .i64 0]) ?_ 2 _ rfl; (with_reducible repeat (first | refine blk_drewN ?_ _ | refine blk_drew ?_ | refine blk_alloc ?_ _)); refine blk_put (cs := #[.string a1_1, .string (⟨#[]⟩ : ByteArray), .int .i64 0]) ?_ 1 _ rfl; (with_reducible repeat (first | refine blk_drewN ?_ _ | refine blk_drew ?_ | refine blk_alloc ?_ _)); refine blk_put (cs := #[.string (⟨#[]⟩ : ByteArray), .string (⟨#[]⟩ : ByteArray), .int .i64 0]) ?_ 0 _ rfl; (with_reducible repeat (first | refine blk_drewN ?_ _ | refine blk_drew ?_ | refine blk_alloc ?_ _)); exact BK304.out⟩, ⟨zb4 HB.out GE298.out GE299.out GE300.out GE304.out⟩⟩
       ·rw [if_neg c75] at H
        exact absurd H (by simp)
      ·rw [if_neg c74] at H
       exact absurd H (by simp)
     ·rw [if_neg c73] at H
      have c73b0 : decide (0 ≤ t303) = false := decide_eq_false c73
      clear c73
      (first | rw [c73b0] | (simp only [i64_w, i32_w]; rw [c73b0]) | skip)
      have H' := Aside0.mk H
      clear H
      go_wp2
      go_meet
      case rel => exact ⟨_, (a1_1), ((⟨#[]⟩ : ByteArray)), (0), H', ⟨by have := HJ2.out; first | omega | exact Nat.le_refl _⟩, ⟨zf1 BK298.out NB298_304.out⟩, ⟨zf1 BK299.out NB299_304.out⟩, ⟨zf1 BK300.out NB300_304.out⟩, ⟨by (with_reducible repeat (first | refine blk_drewN ?_ _ | refine blk_drew ?_ | refine blk_alloc ?_ _)); refine blk_put (cs := #[.string a1_1, .string (⟨#[]⟩ : ByteArray), .int .i64 0]) ?_ 2 _ rfl; (with_reducible repeat (first | refine blk_drewN ?_ _ | refine blk_drew ?_ | refine blk_alloc ?_ _)); refine blk_put (cs := #[.string a1_1, .string (⟨#[]⟩ : ByteArray), .int .i64 0]) ?_ 1 _ rfl; (with_reducible repeat (first | refine blk_drewN ?_ _ | refine blk_drew ?_ | refine blk_alloc ?_ _)); refine blk_put (cs := #[.string (⟨#[]⟩ : ByteArray), .string (⟨#[]⟩ : ByteArray), .int .i64 0]) ?_ 0 _ rfl; (with_reducible repeat (first | refine blk_drewN ?_ _ | refine blk_drew ?_ | refine blk_alloc ?_ _)); exact BK304.out⟩, ⟨zb4 HB.out GE298.out GE299.out GE300.out GE304.out⟩⟩
    case rest =>
     clear HC60
     obtain ⟨kq, x305000_59, x305001_59, x305002_59, HA, HJ59, BK298, BK299, BK300, BK304, HB⟩ := hcut
     cases kq with
     | zero => exact absurd HA.out (by simp [spec_DoAct.j1])
     | succ kj59 =>
      have H := HA.out
      clear HA
      simp only [spec_DoAct.j1] at H
      by_cases c83 : a1_0 = 1
      ·rw [if_pos c83] at H
       have c83b0 : (a1_0 == 1) = true := beq_iff_eq.mpr c83
       have c83b1 : (a1_0 != 1) = false := bne_eq_false_iff_eq.mpr c83
       clear c83
       by_cases c84 : x305001_59.size + a1_2.size ≤ 9223372036854775807
       ·rw [if_pos c84] at H
        have c84b0 := eq_true c84
        have c84b1 : decide (x305001_59.size + a1_2.size ≤ 9223372036854775807) = true := decide_eq_true c84
        try have c84b2 : (9223372036854775807 < x305001_59.size + a1_2.size) = False := eq_false (Nat.not_lt.2 c84)
        replace H := Option.bind_eq_some_iff.mp H
        obtain ⟨t307, A850, H⟩ := H
        try dsimp only at H
        have A85 := Aside0.mk A850
        clear A850
        replace H := Option.bind_eq_some_iff.mp H
        obtain ⟨t310, A860, H⟩ := H
        try dsimp only at H
        have A86 := Aside0.mk A860
        clear A860
        by_cases c87 : t310 = true
        ·subst c87
         have H1 : (some (t307, true)) = some (r1, r2) := by rw [if_pos rfl] at H; exact H
         clear H
         have H := H1
         clear H1
         simp only [Option.some.injEq, Prod.mk.injEq] at H
         obtain ⟨rfl, rfl⟩ := H
         go_wp2_with (first | ((with_reducible refine gate_dst (N := 8) rfl ?_); refine box_event rfl (N := 8) rfl (cs := #[.slice none 0 0]) (t := 31) zrun ?_; intro gb306 hg w88 hbox hb; have BK306 := am (hbox); have GW306 := zge hg (zb4 HB.out GE298.out GE299.out GE300.out GE304.out); have GE306 := zge hg (zb4 HB.out GE298.out GE299.out GE300.out GE304.out); obtain ⟨NB298_306, NB306_298⟩ := zne hg BK298; obtain ⟨NB299_306, NB306_299⟩ := zne hg BK299; obtain ⟨NB300_306, NB306_300⟩ := zne hg BK300; obtain ⟨NB304_306, NB306_304⟩ := zne hg BK304; replace BK298 := zk hb BK298; replace BK299 := zk hb BK299; replace BK300 := zk hb BK300; replace BK304 := zk hb BK304; replace HB := zs4 hb HB GE298 GE299 GE300 GE304; clear hb hbox hg; obtain ⟨hnb89, hnc89⟩ := zn2 NB306_298; obtain ⟨hnb90, hnc90⟩ := zn2 NB306_299; obtain ⟨hnb91, hnc91⟩ := zn2 NB306_300; obtain ⟨hnb92, hnc92⟩ := zn2 NB306_304; obtain ⟨hcz93_0, hfz93_0⟩ := zc1 BK306.out; obtain ⟨hnb94, hnc94⟩ := zn2 NB299_298; obtain ⟨hnb95, hnc95⟩ := zn2 NB299_300; obtain ⟨hnb96, hnc96⟩ := zn2 NB299_304; obtain ⟨hcz97_0, hcz97_1, hcz97_2, hcz97_3, hfz97_0, hfz97_1, hfz97_2, hfz97_3⟩ := zc4 BK299.out; obtain ⟨hnb98, hnc98⟩ := zn2 NB304_298; obtain ⟨hnb99, hnc99⟩ := zn2 NB304_300; obtain ⟨hcz100_0, hcz100_1, hcz100_2, hfz100_0, hfz100_1, hfz100_2⟩ := zc3 BK304.out; obtain ⟨hnb101, hnc101⟩ := zn2 NB298_300; obtain ⟨hcz102_0, hfz102_0⟩ := zc1 BK298.out) | ((with_reducible refine gate_callee (f := 35) rfl ?_); refine goesL_ (some 67) rfl rfl Try.func35 (by kernel_rfl) rfl #[.agg #[.slice A0_0 l0_0.length c0_0], .agg #[.string x305000_59, .string (x305001_59 ++ a1_2), .int .i64 x305002_59]] rfl zr ?_; (with_reducible refine (spec_l03Put.calls kj59 _ _ l0_0 x305000_59 (x305001_59 ++ a1_2) x305002_59 t307 _ ?side1 ?side2 A85.out).mono ?_); (case side1 => exact Kd.C_below HR0_0.out (zb5 HB.out GE298.out GE299.out GE300.out GE304.out GE306.out)); (case side2 => exact HC0_0.out); rintro e w103 ⟨v308, rfl, ho0, hb⟩; refine ⟨_, rfl, ?_⟩; have HO309 := am (Kd.R_lower (Kd.R_newB ho0 (g := gb304) (o := .cells #[.string x305000_59, .string (x305001_59 ++ a1_2), .int .i64 x305002_59] 66 (0, 0)) (by (with_reducible repeat (first | refine blk_drewN ?_ _ | refine blk_drew ?_ | refine blk_alloc ?_ _)); refine blk_put (cs := #[.string x305000_59, .string x305001_59, .int .i64 x305002_59]) ?_ 1 _ rfl; (with_reducible repeat (first | refine blk_drewN ?_ _ | refine blk_drew ?_ | refine blk_alloc ?_ _)); refine blk_far ?_ NB304_306.out _; (with_reducible repeat (first | refine blk_drewN ?_ _ | refine blk_drew ?_ | refine blk_alloc ?_ _)); exact BK304.out)) (below_size (zb5 HB.out GE298.out GE299.out GE300.out GE304.out GE306.out))); replace BK298 := zh2 hb BK298 NB298_304 NB298_306; replace BK299 := zh2 hb BK299 NB299_304 NB299_306; replace BK300 := zh2 hb BK300 NB300_304 NB300_306; replace BK304 := am (blk_below (g := gb304) (o := .cells #[.string x305000_59, .string (x305001_59 ++ a1_2), .int .i64 x305002_59] 66 (0, 0)) (by (with_reducible repeat (first | refine blk_drewN ?_ _ | refine blk_drew ?_ | refine blk_alloc ?_ _)); refine blk_put (cs := #[.string x305000_59, .string x305001_59, .int .i64 x305002_59]) ?_ 1 _ rfl; (with_reducible repeat (first | refine blk_drewN ?_ _ | refine blk_drew ?_ | refine blk_alloc ?_ _)); refine blk_far ?_ NB304_306.out _; (with_reducible repeat (first | refine blk_drewN ?_ _ | refine blk_drew ?_ | refine blk_alloc ?_ _)); exact BK304.out) hb); replace BK306 := am (blk_below (g := gb306) (o := .cells #[.slice none 0 0] 31 (0, 0)) (by (with_reducible repeat (first | refine blk_drewN ?_ _ | refine blk_drew ?_ | refine blk_alloc ?_ _)); refine blk_far ?_ NB306_304.out _; (with_reducible repeat (first | refine blk_drewN ?_ _ | refine blk_drew ?_ | refine blk_alloc ?_ _)); refine blk_put (cs := #[.slice none 0 0]) ?_ 0 _ rfl; (with_reducible repeat (first | refine blk_drewN ?_ _ | refine blk_drew ?_ | refine blk_alloc ?_ _)); exact BK306.out) hb); replace HB := zs5 hb HB GE298 GE299 GE300 GE304 GE306; clear hb ho0; obtain ⟨Ao104, co104, eo104⟩ := Kd.R_slice HO309.out; subst eo104; obtain ⟨hcz105_0, hfz105_0⟩ := zc1 BK306.out) | ((with_reducible refine gate_callee (f := 32) rfl ?_); refine goesL_ (some 125) rfl rfl Try.func32 (by kernel_rfl) rfl #[.agg #[.slice Ao104 t307.length co104]] rfl zr ?_; (with_reducible refine (spec_DiskOk.calls kj59 _ _ t307 true _ ?side1 ?side2 A86.out).mono ?_); (case side1 => refine (Kd.R_reads' (e := 66) (base := w.heap.size) (ok := fun k_ => (True ∧ k_ ≠ gb304)) (n := t307.length) (c := co104) ?_).2.2; exact (rx ((Kd.R_mono (Kd.R_far (p := ⟨gb306, 0, none⟩) (Kd.R_types HO309.out BK306.out (by decide)) (fun _ hk => hk.2) (.slice Ao104 t307.length co104)) (fun _ h_ => h_.1))))); (case side2 => exact (Kd.R_reads' HO309.out).2.1); rintro e w106 ⟨rfl, hb⟩; refine ⟨_, rfl, ?_⟩; replace HO309 := am (Kd.R_below (rx ((Kd.R_mono (Kd.R_far (p := ⟨gb306, 0, none⟩) (Kd.R_types HO309.out BK306.out (by decide)) (fun _ hk => hk.2) (.slice Ao104 t307.length co104)) (fun _ h_ => h_.1)))) hb); replace BK298 := zh1 hb BK298 NB298_306; replace BK299 := zh1 hb BK299 NB299_306; replace BK300 := zh1 hb BK300 NB300_306; replace BK304 := zh1 hb BK304 NB304_306; replace BK306 := am (blk_below (g := gb306) (o := .cells #[.slice Ao104 t307.length co104] 31 (0, 0)) (by (with_reducible repeat (first | refine blk_drewN ?_ _ | refine blk_drew ?_ | refine blk_alloc ?_ _)); refine blk_put (cs := #[.slice none 0 0]) ?_ 0 _ rfl; (with_reducible repeat (first | refine blk_drewN ?_ _ | refine blk_drew ?_ | refine blk_alloc ?_ _)); exact BK306.out) hb); replace HB := zs5 hb HB GE298 GE299 GE300 GE304 GE306; clear hb; obtain ⟨hcz107_0, hfz107_0⟩ := zc1 BK306.out; obtain ⟨hcz108_0, hfz108_0⟩ := zc1 BK300.out))
         refine bodyPost_ret (results_ct rfl _ _ gb300 31 #[.slice Ao104 t307.length co104] (0, 0) _ rfl (by (with_reducible repeat (first | refine blk_drewN ?_ _ | refine blk_drew ?_ | refine blk_alloc ?_ _)); refine blk_put (cs := #[.slice none 0 0]) ?_ 0 _ rfl; (with_reducible repeat (first | refine blk_drewN ?_ _ | refine blk_drew ?_ | refine blk_alloc ?_ _)); exact BK300.out) Try.underlying31 rfl (by kernel_rfl)) rfl ?_
         exact ⟨_, by first | rfl | (simp [errW_none, errW_some] <;> rfl) | (simp [*, errW_none, errW_some] <;> rfl), rx (Kd.R_mono (Kd.R_far (p := ⟨gb300, 0, none⟩) (Kd.R_types HO309.out BK300.out (by decide)) (fun _ hk => hk.2) (.slice Ao104 t307.length co104)) (fun _ hk => trivial)), zb5 HB.out GE298.out GE299.out GE300.out GE304.out GE306.out⟩
        ·replace c87 := Bool.eq_false_iff.mpr c87
         subst c87
         have H1 : (some (([] : List (S66)), false)) = some (r1, r2) := by rw [if_neg (show ¬ (false = true) by decide)] at H; exact H
         clear H
         have H := H1
         clear H1
         simp only [Option.some.injEq, Prod.mk.injEq] at H
         obtain ⟨rfl, rfl⟩ := H
         go_wp2_with (first | ((with_reducible refine gate_dst (N := 8) rfl ?_); refine box_event rfl (N := 8) rfl (cs := #[.slice none 0 0]) (t := 31) zrun ?_; intro gb306 hg w109 hbox hb; have BK306 := am (hbox); have GW306 := zge hg (zb4 HB.out GE298.out GE299.out GE300.out GE304.out); have GE306 := zge hg (zb4 HB.out GE298.out GE299.out GE300.out GE304.out); obtain ⟨NB298_306, NB306_298⟩ := zne hg BK298; obtain ⟨NB299_306, NB306_299⟩ := zne hg BK299; obtain ⟨NB300_306, NB306_300⟩ := zne hg BK300; obtain ⟨NB304_306, NB306_304⟩ := zne hg BK304; replace BK298 := zk hb BK298; replace BK299 := zk hb BK299; replace BK300 := zk hb BK300; replace BK304 := zk hb BK304; replace HB := zs4 hb HB GE298 GE299 GE300 GE304; clear hb hbox hg; obtain ⟨hnb110, hnc110⟩ := zn2 NB306_298; obtain ⟨hnb111, hnc111⟩ := zn2 NB306_299; obtain ⟨hnb112, hnc112⟩ := zn2 NB306_300; obtain ⟨hnb113, hnc113⟩ := zn2 NB306_304; obtain ⟨hcz114_0, hfz114_0⟩ := zc1 BK306.out; obtain ⟨hnb115, hnc115⟩ := zn2 NB299_298; obtain ⟨hnb116, hnc116⟩ := zn2 NB299_300; obtain ⟨hnb117, hnc117⟩ := zn2 NB299_304; obtain ⟨hcz118_0, hcz118_1, hcz118_2, hcz118_3, hfz118_0, hfz118_1, hfz118_2, hfz118_3⟩ := zc4 BK299.out; obtain ⟨hnb119, hnc119⟩ := zn2 NB304_298; obtain ⟨hnb120, hnc120⟩ := zn2 NB304_300; obtain ⟨hcz121_0, hcz121_1, hcz121_2, hfz121_0, hfz121_1, hfz121_2⟩ := zc3 BK304.out; obtain ⟨hnb122, hnc122⟩ := zn2 NB298_300; obtain ⟨hcz123_0, hfz123_0⟩ := zc1 BK298.out) | ((with_reducible refine gate_callee (f := 35) rfl ?_); refine goesL_ (some 67) rfl rfl Try.func35 (by kernel_rfl) rfl #[.agg #[.slice A0_0 l0_0.length c0_0], .agg #[.string x305000_59, .string (x305001_59 ++ a1_2), .int .i64 x305002_59]] rfl zr ?_; (with_reducible refine (spec_l03Put.calls kj59 _ _ l0_0 x305000_59 (x305001_59 ++ a1_2) x305002_59 t307 _ ?side1 ?side2 A85.out).mono ?_); (case side1 => exact Kd.C_below HR0_0.out (zb5 HB.out GE298.out GE299.out GE300.out GE304.out GE306.out)); (case side2 => exact HC0_0.out); rintro e w124 ⟨v308, rfl, ho0, hb⟩; refine ⟨_, rfl, ?_⟩; have HO309 := am (Kd.R_lower (Kd.R_newB ho0 (g := gb304) (o := .cells #[.string x305000_59, .string (x305001_59 ++ a1_2), .int .i64 x305002_59] 66 (0, 0)) (by (with_reducible repeat (first | refine blk_drewN ?_ _ | refine blk_drew ?_ | refine blk_alloc ?_ _)); refine blk_put (cs := #[.string x305000_59, .string x305001_59, .int .i64 x305002_59]) ?_ 1 _ rfl; (with_reducible repeat (first | refine blk_drewN ?_ _ | refine blk_drew ?_ | refine blk_alloc ?_ _)); refine blk_far ?_ NB304_306.out _; (with_reducible repeat (first | refine blk_drewN ?_ _ | refine blk_drew ?_ | refine blk_alloc ?_ _)); exact BK304.out)) (below_size (zb5 HB.out GE298.out GE299.out GE300.out GE304.out GE306.out))); replace BK298 := zh2 hb BK298 NB298_304 NB298_306; replace BK299 := zh2 hb BK299 NB299_304 NB299_306; replace BK300 := zh2 hb BK300 NB300_304 NB300_306; replace BK304 := am (blk_below (g := gb304) (o := .cells #[.string x305000_59, .string (x305001_59 ++ a1_2), .int .i64 x305002_59] 66 (0, 0)) (by (with_reducible repeat (first | refine blk_drewN ?_ _ | refine blk_drew ?_ | refine blk_alloc ?_ _)); refine blk_put (cs := #[.string x305000_59, .string x305001_59, .int .i64 x305002_59]) ?_ 1 _ rfl; (with_reducible repeat (first | refine blk_drewN ?_ _ | refine blk_drew ?_ | refine blk_alloc ?_ _)); refine blk_far ?_ NB304_306.out _; (with_reducible repeat (first | refine blk_drewN ?_ _ | refine blk_drew ?_ | refine blk_alloc ?_ _)); exact BK304.out) hb); replace BK306 := am (blk_below (g := gb306) (o := .cells #[.slice none 0 0] 31 (0, 0)) (by (with_reducible repeat (first | refine blk_drewN ?_ _ | refine blk_drew ?_ | refine blk_alloc ?_ _)); refine blk_far ?_ NB306_304.out _; (with_reducible repeat (first | refine blk_drewN ?_ _ | refine blk_drew ?_ | refine blk_alloc ?_ _)); refine blk_put (cs := #[.slice none 0 0]) ?_ 0 _ rfl; (with_reducible repeat (first | refine blk_drewN ?_ _ | refine blk_drew ?_ | refine blk_alloc ?_ _)); exact BK306.out) hb); replace HB := zs5 hb HB GE298 GE299 GE300 GE304 GE306; clear hb ho0; obtain ⟨Ao125, co125, eo125⟩ := Kd.R_slice HO309.out; subst eo125; obtain ⟨hcz126_0, hfz126_0⟩ := zc1 BK306.out) | ((with_reducible refine gate_callee (f := 32) rfl ?_); refine goesL_ (some 125) rfl rfl Try.func32 (by kernel_rfl) rfl #[.agg #[.slice Ao125 t307.length co125]] rfl zr ?_; (with_reducible refine (spec_DiskOk.calls kj59 _ _ t307 false _ ?side1 ?side2 A86.out).mono ?_); (case side1 => refine (Kd.R_reads' (e := 66) (base := w.heap.size) (ok := fun k_ => (True ∧ k_ ≠ gb304)) (n := t307.length) (c := co125) ?_).2.2; exact (rx ((Kd.R_mono (Kd.R_far (p := ⟨gb306, 0, none⟩) (Kd.R_types HO309.out BK306.out (by decide)) (fun _ hk => hk.2) (.slice Ao125 t307.length co125)) (fun _ h_ => h_.1))))); (case side2 => exact (Kd.R_reads' HO309.out).2.1); rintro e w127 ⟨rfl, hb⟩; refine ⟨_, rfl, ?_⟩; replace HO309 := am (Kd.R_below (rx ((Kd.R_mono (Kd.R_far (p := ⟨gb306, 0, none⟩) (Kd.R_types HO309.out BK306.out (by decide)) (fun _ hk => hk.2) (.slice Ao125 t307.length co125)) (fun _ h_ => h_.1)))) hb); replace BK298 := zh1 hb BK298 NB298_306; replace BK299 := zh1 hb BK299 NB299_306; replace BK300 := zh1 hb BK300 NB300_306; replace BK304 := zh1 hb BK304 NB304_306; replace BK306 := am (blk_below (g := gb306) (o := .cells #[.slice Ao125 t307.length co125] 31 (0, 0)) (by (with_reducible repeat (first | refine blk_drewN ?_ _ | refine blk_drew ?_ | refine blk_alloc ?_ _)); refine blk_put (cs := #[.slice none 0 0]) ?_ 0 _ rfl; (with_reducible repeat (first | refine blk_drewN ?_ _ | refine blk_drew ?_ | refine blk_alloc ?_ _)); exact BK306.out) hb); replace HB := zs5 hb HB GE298 GE299 GE300 GE304 GE306; clear hb; obtain ⟨hcz128_0, hfz128_0⟩ := zc1 BK300.out))
         refine bodyPost_ret (results_ct rfl _ _ gb300 31 #[.slice none 0 0] (0, 0) _ rfl (by (with_reducible repeat (first | refine blk_drewN ?_ _ | refine blk_drew ?_ | refine blk_alloc ?_ _)); refine blk_put (cs := #[.slice none 0 0]) ?_ 0 _ rfl; (with_reducible repeat (first | refine blk_drewN ?_ _ | refine blk_drew ?_ | refine blk_alloc ?_ _)); exact BK300.out) Try.underlying31 rfl (by kernel_rfl)) rfl ?_
         exact ⟨_, by first | rfl | (simp [errW_none, errW_some] <;> rfl) | (simp [*, errW_none, errW_some] <;> rfl), by first | exact Kd.R_nil _ _ _ _ _ | exact Kd.N_nil _ _ _ _ _ | exact Kd.V_nil _ _ _ _ _ | exact Kd.Q_nil _ _ _ _ _ | exact Kd.S_nil _ _ _ _ _, zb5 HB.out GE298.out GE299.out GE300.out GE304.out GE306.out⟩
       ·rw [if_neg c84] at H
        exact absurd H (by simp)
      ·rw [if_neg c83] at H
       have c83b0 : (a1_0 == 1) = false := beq_eq_false_iff_ne.mpr c83
       have c83b1 : (a1_0 != 1) = true := bne_iff_ne.mpr c83
       by_cases c129 : t303 < 0
       ·rw [if_pos c129] at H
        have c129b0 : decide (t303 < 0) = true := decide_eq_true c129
        clear c129
        simp only [Option.some.injEq, Prod.mk.injEq] at H
        obtain ⟨rfl, rfl⟩ := H
        go_wp2_with (first | ((with_reducible refine gate_dst (N := 8) rfl ?_); refine box_event rfl (N := 8) rfl (cs := #[.slice none 0 0]) (t := 31) zrun ?_; intro gb306 hg w130 hbox hb; have BK306 := am (hbox); have GW306 := zge hg (zb4 HB.out GE298.out GE299.out GE300.out GE304.out); have GE306 := zge hg (zb4 HB.out GE298.out GE299.out GE300.out GE304.out); obtain ⟨NB298_306, NB306_298⟩ := zne hg BK298; obtain ⟨NB299_306, NB306_299⟩ := zne hg BK299; obtain ⟨NB300_306, NB306_300⟩ := zne hg BK300; obtain ⟨NB304_306, NB306_304⟩ := zne hg BK304; replace BK298 := zk hb BK298; replace BK299 := zk hb BK299; replace BK300 := zk hb BK300; replace BK304 := zk hb BK304; replace HB := zs4 hb HB GE298 GE299 GE300 GE304; clear hb hbox hg; obtain ⟨hnb131, hnc131⟩ := zn2 NB306_298; obtain ⟨hnb132, hnc132⟩ := zn2 NB306_299; obtain ⟨hnb133, hnc133⟩ := zn2 NB306_300; obtain ⟨hnb134, hnc134⟩ := zn2 NB306_304; obtain ⟨hcz135_0, hfz135_0⟩ := zc1 BK306.out; obtain ⟨hnb136, hnc136⟩ := zn2 NB299_298; obtain ⟨hnb137, hnc137⟩ := zn2 NB299_300; obtain ⟨hnb138, hnc138⟩ := zn2 NB299_304; obtain ⟨hcz139_0, hcz139_1, hcz139_2, hcz139_3, hfz139_0, hfz139_1, hfz139_2, hfz139_3⟩ := zc4 BK299.out; obtain ⟨hnb140, hnc140⟩ := zn2 NB300_298; obtain ⟨hnb141, hnc141⟩ := zn2 NB300_304; obtain ⟨hcz142_0, hfz142_0⟩ := zc1 BK300.out))
        refine bodyPost_ret (results_ct rfl _ _ gb300 31 #[.slice none 0 0] (0, 0) _ rfl (by (with_reducible repeat (first | refine blk_drewN ?_ _ | refine blk_drew ?_ | refine blk_alloc ?_ _)); refine blk_put (cs := #[.slice none 0 0]) ?_ 0 _ rfl; (with_reducible repeat (first | refine blk_drewN ?_ _ | refine blk_drew ?_ | refine blk_alloc ?_ _)); refine blk_far ?_ NB300_306.out _; (with_reducible repeat (first | refine blk_drewN ?_ _ | refine blk_drew ?_ | refine blk_alloc ?_ _)); exact BK300.out) Try.underlying31 rfl (by kernel_rfl)) rfl ?_
        exact ⟨_, by first | rfl | (simp [errW_none, errW_some] <;> rfl) | (simp [*, errW_none, errW_some] <;> rfl), by first | exact Kd.R_nil _ _ _ _ _ | exact Kd.N_nil _ _ _ _ _ | exact Kd.V_nil _ _ _ _ _ | exact Kd.Q_nil _ _ _ _ _ | exact Kd.S_nil _ _ _ _ _, zb5 HB.out GE298.out GE299.out GE300.out GE304.out GE306.out⟩
       ·rw [if_neg c129] at H
        have c129b0 : decide (t303 < 0) = false := decide_eq_false c129
        clear c129
        by_cases c143 : a1_0 = 2
        ·rw [if_pos c143] at H
         have c143b0 : (a1_0 == 2) = true := beq_iff_eq.mpr c143
         have c143b1 : (a1_0 != 2) = false := bne_eq_false_iff_eq.mpr c143
         clear c143
         replace H := Option.bind_eq_some_iff.mp H
         obtain ⟨t311, A1440, H⟩ := H
         try dsimp only at H
         have A144 := Aside0.mk A1440
         clear A1440
         replace H := Option.bind_eq_some_iff.mp H
         obtain ⟨t314, A1450, H⟩ := H
         try dsimp only at H
         have A145 := Aside0.mk A1450
         clear A1450
         by_cases c146 : t314 = true
         ·subst c146
          have H1 : (some (t311, true)) = some (r1, r2) := by rw [if_pos rfl] at H; exact H
          clear H
          have H := H1
          clear H1
          simp only [Option.some.injEq, Prod.mk.injEq] at H
          obtain ⟨rfl, rfl⟩ := H
          go_wp2_with (first | ((with_reducible refine gate_dst (N := 8) rfl ?_); refine box_event rfl (N := 8) rfl (cs := #[.slice none 0 0]) (t := 31) zrun ?_; intro gb306 hg w147 hbox hb; have BK306 := am (hbox); have GW306 := zge hg (zb4 HB.out GE298.out GE299.out GE300.out GE304.out); have GE306 := zge hg (zb4 HB.out GE298.out GE299.out GE300.out GE304.out); obtain ⟨NB298_306, NB306_298⟩ := zne hg BK298; obtain ⟨NB299_306, NB306_299⟩ := zne hg BK299; obtain ⟨NB300_306, NB306_300⟩ := zne hg BK300; obtain ⟨NB304_306, NB306_304⟩ := zne hg BK304; replace BK298 := zk hb BK298; replace BK299 := zk hb BK299; replace BK300 := zk hb BK300; replace BK304 := zk hb BK304; replace HB := zs4 hb HB GE298 GE299 GE300 GE304; clear hb hbox hg; obtain ⟨hnb148, hnc148⟩ := zn2 NB306_298; obtain ⟨hnb149, hnc149⟩ := zn2 NB306_299; obtain ⟨hnb150, hnc150⟩ := zn2 NB306_300; obtain ⟨hnb151, hnc151⟩ := zn2 NB306_304; obtain ⟨hcz152_0, hfz152_0⟩ := zc1 BK306.out; obtain ⟨hnb153, hnc153⟩ := zn2 NB299_298; obtain ⟨hnb154, hnc154⟩ := zn2 NB299_300; obtain ⟨hnb155, hnc155⟩ := zn2 NB299_304; obtain ⟨hcz156_0, hcz156_1, hcz156_2, hcz156_3, hfz156_0, hfz156_1, hfz156_2, hfz156_3⟩ := zc4 BK299.out; obtain ⟨hnb157, hnc157⟩ := zn2 NB304_298; obtain ⟨hnb158, hnc158⟩ := zn2 NB304_300; obtain ⟨hcz159_0, hcz159_1, hcz159_2, hfz159_0, hfz159_1, hfz159_2⟩ := zc3 BK304.out; obtain ⟨hnb160, hnc160⟩ := zn2 NB298_300; obtain ⟨hcz161_0, hfz161_0⟩ := zc1 BK298.out) | ((with_reducible refine gate_callee (f := 35) rfl ?_); refine goesL_ (some 82) rfl rfl Try.func35 (by kernel_rfl) rfl #[.agg #[.slice A0_0 l0_0.length c0_0], .agg #[.string x305000_59, .string x305001_59, .int .i64 (x305001_59.size : Int)]] rfl zr ?_; (with_reducible refine (spec_l03Put.calls kj59 _ _ l0_0 x305000_59 x305001_59 (x305001_59.size : Int) t311 _ ?side1 ?side2 A144.out).mono ?_); (case side1 => exact Kd.C_below HR0_0.out (zb5 HB.out GE298.out GE299.out GE300.out GE304.out GE306.out)); (case side2 => exact HC0_0.out); rintro e w162 ⟨v312, rfl, ho0, hb⟩; refine ⟨_, rfl, ?_⟩; have HO313 := am (Kd.R_lower (Kd.R_newB ho0 (g := gb304) (o := .cells #[.string x305000_59, .string x305001_59, .int .i64 (x305001_59.size : Int)] 66 (0, 0)) (by (with_reducible repeat (first | refine blk_drewN ?_ _ | refine blk_drew ?_ | refine blk_alloc ?_ _)); refine blk_put (cs := #[.string x305000_59, .string x305001_59, .int .i64 x305002_59]) ?_ 2 _ rfl; (with_reducible repeat (first | refine blk_drewN ?_ _ | refine blk_drew ?_ | refine blk_alloc ?_ _)); refine blk_far ?_ NB304_306.out _; (with_reducible repeat (first | refine blk_drewN ?_ _ | refine blk_drew ?_ | refine blk_alloc ?_ _)); exact BK304.out)) (below_size (zb5 HB.out GE298.out GE299.out GE300.out GE304.out GE306.out))); replace BK298 := zh2 hb BK298 NB298_304 NB298_306; replace BK299 := zh2 hb BK299 NB299_304 NB299_306; replace BK300 := zh2 hb BK300 NB300_304 NB300_306; replace BK304 := am (blk_below (g := gb304) (o := .cells #[.string x305000_59, .string x305001_59, .int .i64 (x305001_59.size : Int)] 66 (0, 0)) (by (with_reducible repeat (first | refine blk_drewN ?_ _ | refine blk_drew ?_ | refine blk_alloc ?_ _)); refine blk_put (cs := #[.string x305000_59, .string x305001_59, .int .i64 x305002_59]) ?_ 2 _ rfl; (with_reducible repeat (first | refine blk_drewN ?_ _ | refine blk_drew ?_ | refine blk_alloc ?_ _)); refine blk_far ?_ NB304_306.out _; (with_reducible repeat (first | refine blk_drewN ?_ _ | refine blk_drew ?_ | refine blk_alloc ?_ _)); exact BK304.out) hb); replace BK306 := am (blk_below (g := gb306) (o := .cells #[.slice none 0 0] 31 (0, 0)) (by (with_reducible repeat (first | refine blk_drewN ?_ _ | refine blk_drew ?_ | refine blk_alloc ?_ _)); refine blk_far ?_ NB306_304.out _; (with_reducible repeat (first | refine blk_drewN ?_ _ | refine blk_drew ?_ | refine blk_alloc ?_ _)); refine blk_put (cs := #[.slice none 0 0]) ?_ 0 _ rfl; (with_reducible repeat (first | refine blk_drewN ?_ _ | refine blk_drew ?_ | refine blk_alloc ?_ _)); exact BK306.out) hb); replace HB := zs5 hb HB GE298 GE299 GE300 GE304 GE306; clear hb ho0; obtain ⟨Ao163, co163, eo163⟩ := Kd.R_slice HO313.out; subst eo163; obtain ⟨hcz164_0, hfz164_0⟩ := zc1 BK306.out) | ((with_reducible refine gate_callee (f := 32) rfl ?_); refine goesL_ (some 125) rfl rfl Try.func32 (by kernel_rfl) rfl #[.agg #[.slice Ao163 t311.length co163]] rfl zr ?_; (with_reducible refine (spec_DiskOk.calls kj59 _ _ t311 true _ ?side1 ?side2 A145.out).mono ?_); (case side1 => refine (Kd.R_reads' (e := 66) (base := w.heap.size) (ok := fun k_ => (True ∧ k_ ≠ gb304)) (n := t311.length) (c := co163) ?_).2.2; exact (rx ((Kd.R_mono (Kd.R_far (p := ⟨gb306, 0, none⟩) (Kd.R_types HO313.out BK306.out (by decide)) (fun _ hk => hk.2) (.slice Ao163 t311.length co163)) (fun _ h_ => h_.1))))); (case side2 => exact (Kd.R_reads' HO313.out).2.1); rintro e w165 ⟨rfl, hb⟩; refine ⟨_, rfl, ?_⟩; replace HO313 := am (Kd.R_below (rx ((Kd.R_mono (Kd.R_far (p := ⟨gb306, 0, none⟩) (Kd.R_types HO313.out BK306.out (by decide)) (fun _ hk => hk.2) (.slice Ao163 t311.length co163)) (fun _ h_ => h_.1)))) hb); replace BK298 := zh1 hb BK298 NB298_306; replace BK299 := zh1 hb BK299 NB299_306; replace BK300 := zh1 hb BK300 NB300_306; replace BK304 := zh1 hb BK304 NB304_306; replace BK306 := am (blk_below (g := gb306) (o := .cells #[.slice Ao163 t311.length co163] 31 (0, 0)) (by (with_reducible repeat (first | refine blk_drewN ?_ _ | refine blk_drew ?_ | refine blk_alloc ?_ _)); refine blk_put (cs := #[.slice none 0 0]) ?_ 0 _ rfl; (with_reducible repeat (first | refine blk_drewN ?_ _ | refine blk_drew ?_ | refine blk_alloc ?_ _)); exact BK306.out) hb); replace HB := zs5 hb HB GE298 GE299 GE300 GE304 GE306; clear hb; obtain ⟨hcz166_0, hfz166_0⟩ := zc1 BK306.out; obtain ⟨hcz167_0, hfz167_0⟩ := zc1 BK300.out))
          refine bodyPost_ret (results_ct rfl _ _ gb300 31 #[.slice Ao163 t311.length co163] (0, 0) _ rfl (by (with_reducible repeat (first | refine blk_drewN ?_ _ | refine blk_drew ?_ | refine blk_alloc ?_ _)); refine blk_put (cs := #[.slice none 0 0]) ?_ 0 _ rfl; (with_reducible repeat (first | refine blk_drewN ?_ _ | refine blk_drew ?_ | refine blk_alloc ?_ _)); exact BK300.out) Try.underlying31 rfl (by kernel_rfl)) rfl ?_
          exact ⟨_, by first | rfl | (simp [errW_none, errW_some] <;> rfl) | (simp [*, errW_none, errW_some] <;> rfl), rx (Kd.R_mono (Kd.R_far (p := ⟨gb300, 0, none⟩) (Kd.R_types HO313.out BK300.out (by decide)) (fun _ hk => hk.2) (.slice Ao163 t311.length co163)) (fun _ hk => trivial)), zb5 HB.out GE298.out GE299.out GE300.out GE304.out GE306.out⟩
         ·replace c146 := Bool.eq_false_iff.mpr c146
          subst c146
          have H1 : (some (([] : List (S66)), false)) = some (r1, r2) := by rw [if_neg (show ¬ (false = true) by decide)] at H; exact H
          clear H
          have H := H1
          clear H1
          simp only [Option.some.injEq, Prod.mk.injEq] at H
          obtain ⟨rfl, rfl⟩ := H
          go_wp2_with (first | ((with_reducible refine gate_dst (N := 8) rfl ?_); refine box_event rfl (N := 8) rfl (cs := #[.slice none 0 0]) (t := 31) zrun ?_; intro gb306 hg w168 hbox hb; have BK306 := am (hbox); have GW306 := zge hg (zb4 HB.out GE298.out GE299.out GE300.out GE304.out); have GE306 := zge hg (zb4 HB.out GE298.out GE299.out GE300.out GE304.out); obtain ⟨NB298_306, NB306_298⟩ := zne hg BK298; obtain ⟨NB299_306, NB306_299⟩ := zne hg BK299; obtain ⟨NB300_306, NB306_300⟩ := zne hg BK300; obtain ⟨NB304_306, NB306_304⟩ := zne hg BK304; replace BK298 := zk hb BK298; replace BK299 := zk hb BK299; replace BK300 := zk hb BK300; replace BK304 := zk hb BK304; replace HB := zs4 hb HB GE298 GE299 GE300 GE304; clear hb hbox hg; obtain ⟨hnb169, hnc169⟩ := zn2 NB306_298; obtain ⟨hnb170, hnc170⟩ := zn2 NB306_299; obtain ⟨hnb171, hnc171⟩ := zn2 NB306_300; obtain ⟨hnb172, hnc172⟩ := zn2 NB306_304; obtain ⟨hcz173_0, hfz173_0⟩ := zc1 BK306.out; obtain ⟨hnb174, hnc174⟩ := zn2 NB299_298; obtain ⟨hnb175, hnc175⟩ := zn2 NB299_300; obtain ⟨hnb176, hnc176⟩ := zn2 NB299_304; obtain ⟨hcz177_0, hcz177_1, hcz177_2, hcz177_3, hfz177_0, hfz177_1, hfz177_2, hfz177_3⟩ := zc4 BK299.out; obtain ⟨hnb178, hnc178⟩ := zn2 NB304_298; obtain ⟨hnb179, hnc179⟩ := zn2 NB304_300; obtain ⟨hcz180_0, hcz180_1, hcz180_2, hfz180_0, hfz180_1, hfz180_2⟩ := zc3 BK304.out; obtain ⟨hnb181, hnc181⟩ := zn2 NB298_300; obtain ⟨hcz182_0, hfz182_0⟩ := zc1 BK298.out) | ((with_reducible refine gate_callee (f := 35) rfl ?_); refine goesL_ (some 82) rfl rfl Try.func35 (by kernel_rfl) rfl #[.agg #[.slice A0_0 l0_0.length c0_0], .agg #[.string x305000_59, .string x305001_59, .int .i64 (x305001_59.size : Int)]] rfl zr ?_; (with_reducible refine (spec_l03Put.calls kj59 _ _ l0_0 x305000_59 x305001_59 (x305001_59.size : Int) t311 _ ?side1 ?side2 A144.out).mono ?_); (case side1 => exact Kd.C_below HR0_0.out (zb5 HB.out GE298.out GE299.out GE300.out GE304.out GE306.out)); (case side2 => exact HC0_0.out); rintro e w183 ⟨v312, rfl, ho0, hb⟩; refine ⟨_, rfl, ?_⟩; have HO313 := am (Kd.R_lower (Kd.R_newB ho0 (g := gb304) (o := .cells #[.string x305000_59, .string x305001_59, .int .i64 (x305001_59.size : Int)] 66 (0, 0)) (by (with_reducible repeat (first | refine blk_drewN ?_ _ | refine blk_drew ?_ | refine blk_alloc ?_ _)); refine blk_put (cs := #[.string x305000_59, .string x305001_59, .int .i64 x305002_59]) ?_ 2 _ rfl; (with_reducible repeat (first | refine blk_drewN ?_ _ | refine blk_drew ?_ | refine blk_alloc ?_ _)); refine blk_far ?_ NB304_306.out _; (with_reducible repeat (first | refine blk_drewN ?_ _ | refine blk_drew ?_ | refine blk_alloc ?_ _)); exact BK304.out)) (below_size (zb5 HB.out GE298.out GE299.out GE300.out GE304.out GE306.out))); replace BK298 := zh2 hb BK298 NB298_304 NB298_306; replace BK299 := zh2 hb BK299 NB299_304 NB299_306; replace BK300 := zh2 hb BK300 NB300_304 NB300_306; replace BK304 := am (blk_below (g := gb304) (o := .cells #[.string x305000_59, .string x305001_59, .int .i64 (x305001_59.size : Int)] 66 (0, 0)) (by (with_reducible repeat (first | refine blk_drewN ?_ _ | refine blk_drew ?_ | refine blk_alloc ?_ _)); refine blk_put (cs := #[.string x305000_59, .string x305001_59, .int .i64 x305002_59]) ?_ 2 _ rfl; (with_reducible repeat (first | refine blk_drewN ?_ _ | refine blk_drew ?_ | refine blk_alloc ?_ _)); refine blk_far ?_ NB304_306.out _; (with_reducible repeat (first | refine blk_drewN ?_ _ | refine blk_drew ?_ | refine blk_alloc ?_ _)); exact BK304.out) hb); replace BK306 := am (blk_below (g := gb306) (o := .cells #[.slice none 0 0] 31 (0, 0)) (by (with_reducible repeat (first | refine blk_drewN ?_ _ | refine blk_drew ?_ | refine blk_alloc ?_ _)); refine blk_far ?_ NB306_304.out _; (with_reducible repeat (first | refine blk_drewN ?_ _ | refine blk_drew ?_ | refine blk_alloc ?_ _)); refine blk_put (cs := #[.slice none 0 0]) ?_ 0 _ rfl; (with_reducible repeat (first | refine blk_drewN ?_ _ | refine blk_drew ?_ | refine blk_alloc ?_ _)); exact BK306.out) hb); replace HB := zs5 hb HB GE298 GE299 GE300 GE304 GE306; clear hb ho0; obtain ⟨Ao184, co184, eo184⟩ := Kd.R_slice HO313.out; subst eo184; obtain ⟨hcz185_0, hfz185_0⟩ := zc1 BK306.out) | ((with_reducible refine gate_callee (f := 32) rfl ?_); refine goesL_ (some 125) rfl rfl Try.func32 (by kernel_rfl) rfl #[.agg #[.slice Ao184 t311.length co184]] rfl zr ?_; (with_reducible refine (spec_DiskOk.calls kj59 _ _ t311 false _ ?side1 ?side2 A145.out).mono ?_); (case side1 => refine (Kd.R_reads' (e := 66) (base := w.heap.size) (ok := fun k_ => (True ∧ k_ ≠ gb304)) (n := t311.length) (c := co184) ?_).2.2; exact (rx ((Kd.R_mono (Kd.R_far (p := ⟨gb306, 0, none⟩) (Kd.R_types HO313.out BK306.out (by decide)) (fun _ hk => hk.2) (.slice Ao184 t311.length co184)) (fun _ h_ => h_.1))))); (case side2 => exact (Kd.R_reads' HO313.out).2.1); rintro e w186 ⟨rfl, hb⟩; refine ⟨_, rfl, ?_⟩; replace HO313 := am (Kd.R_below (rx ((Kd.R_mono (Kd.R_far (p := ⟨gb306, 0, none⟩) (Kd.R_types HO313.out BK306.out (by decide)) (fun _ hk => hk.2) (.slice Ao184 t311.length co184)) (fun _ h_ => h_.1)))) hb); replace BK298 := zh1 hb BK298 NB298_306; replace BK299 := zh1 hb BK299 NB299_306; replace BK300 := zh1 hb BK300 NB300_306; replace BK304 := zh1 hb BK304 NB304_306; replace BK306 := am (blk_below (g := gb306) (o := .cells #[.slice Ao184 t311.length co184] 31 (0, 0)) (by (with_reducible repeat (first | refine blk_drewN ?_ _ | refine blk_drew ?_ | refine blk_alloc ?_ _)); refine blk_put (cs := #[.slice none 0 0]) ?_ 0 _ rfl; (with_reducible repeat (first | refine blk_drewN ?_ _ | refine blk_drew ?_ | refine blk_alloc ?_ _)); exact BK306.out) hb); replace HB := zs5 hb HB GE298 GE299 GE300 GE304 GE306; clear hb; obtain ⟨hcz187_0, hfz187_0⟩ := zc1 BK300.out))
          refine bodyPost_ret (results_ct rfl _ _ gb300 31 #[.slice none 0 0] (0, 0) _ rfl (by (with_reducible repeat (first | refine blk_drewN ?_ _ | refine blk_drew ?_ | refine blk_alloc ?_ _)); refine blk_put (cs := #[.slice none 0 0]) ?_ 0 _ rfl; (with_reducible repeat (first | refine blk_drewN ?_ _ | refine blk_drew ?_ | refine blk_alloc ?_ _)); exact BK300.out) Try.underlying31 rfl (by kernel_rfl)) rfl ?_
          exact ⟨_, by first | rfl | (simp [errW_none, errW_some] <;> rfl) | (simp [*, errW_none, errW_some] <;> rfl), by first | exact Kd.R_nil _ _ _ _ _ | exact Kd.N_nil _ _ _ _ _ | exact Kd.V_nil _ _ _ _ _ | exact Kd.Q_nil _ _ _ _ _ | exact Kd.S_nil _ _ _ _ _, zb5 HB.out GE298.out GE299.out GE300.out GE304.out GE306.out⟩
        ·rw [if_neg c143] at H
         have c143b0 : (a1_0 == 2) = false := beq_eq_false_iff_ne.mpr c143
         have c143b1 : (a1_0 != 2) = true := bne_iff_ne.mpr c143
         by_cases c188 : a1_0 = 3
         ·rw [if_pos c188] at H
          have c188b0 : (a1_0 == 3) = true := beq_iff_eq.mpr c188
          have c188b1 : (a1_0 != 3) = false := bne_eq_false_iff_eq.mpr c188
          clear c188
          have HC189 := Aside0.mk H
          clear H
          go_upto_region 18 with (first | ((with_reducible refine gate_dst (N := 8) rfl ?_); refine box_event rfl (N := 8) rfl (cs := #[.slice none 0 0]) (t := 31) zrun ?_; intro gb306 hg w190 hbox hb; have BK306 := am (hbox); have GW306 := zge hg (zb4 HB.out GE298.out GE299.out GE300.out GE304.out); have GE306 := zge hg (zb4 HB.out GE298.out GE299.out GE300.out GE304.out); obtain ⟨NB298_306, NB306_298⟩ := zne hg BK298; obtain ⟨NB299_306, NB306_299⟩ := zne hg BK299; obtain ⟨NB300_306, NB306_300⟩ := zne hg BK300; obtain ⟨NB304_306, NB306_304⟩ := zne hg BK304; replace BK298 := zk hb BK298; replace BK299 := zk hb BK299; replace BK300 := zk hb BK300; replace BK304 := zk hb BK304; replace HB := zs4 hb HB GE298 GE299 GE300 GE304; clear hb hbox hg; obtain ⟨hnb191, hnc191⟩ := zn2 NB306_298; obtain ⟨hnb192, hnc192⟩ := zn2 NB306_299; obtain ⟨hnb193, hnc193⟩ := zn2 NB306_300; obtain ⟨hnb194, hnc194⟩ := zn2 NB306_304; obtain ⟨hcz195_0, hfz195_0⟩ := zc1 BK306.out; obtain ⟨hnb196, hnc196⟩ := zn2 NB299_298; obtain ⟨hnb197, hnc197⟩ := zn2 NB299_300; obtain ⟨hnb198, hnc198⟩ := zn2 NB299_304; obtain ⟨hcz199_0, hcz199_1, hcz199_2, hcz199_3, hfz199_0, hfz199_1, hfz199_2, hfz199_3⟩ := zc4 BK299.out))
          (try simp only [Act.put, List.setIfInBounds_toArray, List.set_cons_zero, List.set_cons_succ])
          go_cut [105] (fun v105 wc => ∃ (kq : Nat) (x105_188 : Bool), v105 = .bool x105_188 ∧ Aside0 (spec_DoAct.j2 kq x105_188 l0_0 a1_0 a1_1 a1_2 a1_3 x305000_59 x305001_59 x305002_59 = some (r1, r2)) ∧ Aside0 (kq ≤ kj59) ∧ Aside0 (wc.heap[gb298]? = some (.cells #[(.slice A0_0 l0_0.length c0_0)] 31 (0, 0))) ∧ Aside0 (wc.heap[gb299]? = some (.cells #[.int .i64 a1_0, .string a1_1, .string a1_2, .string a1_3] 35 (0, 0))) ∧ Aside0 (wc.heap[gb300]? = some (.cells #[(.slice none 0 0)] 31 (0, 0))) ∧ Aside0 (wc.heap[gb304]? = some (.cells #[.string x305000_59, .string x305001_59, .int .i64 x305002_59] 66 (0, 0))) ∧ Aside0 (wc.heap[gb306]? = some (.cells #[(.slice none 0 0)] 31 (0, 0))) ∧ Aside0 (Below w.heap.size w wc))
          case first =>
           have H := HC189.out
           clear HC189
           by_cases c200 : x305002_59 < (x305001_59.size : Int)
           ·rw [if_pos c200] at H
            have c200b0 : decide (x305002_59 < (x305001_59.size : Int)) = true := decide_eq_true c200
            have c200b1 : decide ((x305001_59.size : Int) ≤ x305002_59) = false := decide_eq_false (by omega)
            clear c200
            (first | rw [c200b0] | (simp only [i64_w, i32_w]; rw [c200b0]) | skip)
            have H' := Aside0.mk H
            clear H
            obtain ⟨hnb201, hnc201⟩ := zn2 NB304_298
            obtain ⟨hnb202, hnc202⟩ := zn2 NB304_299
            obtain ⟨hnb203, hnc203⟩ := zn2 NB304_300
            obtain ⟨hnb204, hnc204⟩ := zn2 NB304_306
            obtain ⟨hcz205_0, hcz205_1, hcz205_2, hfz205_0, hfz205_1, hfz205_2⟩ := zc3 BK304.out
            go_wp2
            go_meet
            case rel => exact ⟨_, (true), (by first | rfl | (simp; done) | (simp [*]; done)), H', ⟨by have := HJ2.out; have := HJ59.out; first | omega | exact Nat.le_refl _⟩, ⟨zf1 BK298.out NB298_306.out⟩, ⟨zf1 BK299.out NB299_306.out⟩, ⟨zf1 BK300.out NB300_306.out⟩, ⟨zf1 BK304.out NB304_306.out⟩, ⟨by (with_reducible repeat (first | refine blk_drewN ?_ _ | refine blk_drew ?_ | refine blk_alloc ?_ _)); refine blk_put (cs := #[.slice none 0 0]) ?_ 0 _ rfl; (with_reducible repeat (first | refine blk_drewN ?_ _ | refine blk_drew ?_ | refine blk_alloc ?_ _)); exact BK306.out⟩, ⟨zb5 HB.out GE298.out GE299.out GE300.out GE304.out GE306.out⟩⟩
           ·rw [if_neg c200] at H
            have c200b0 : decide (x305002_59 < (x305001_59.size : Int)) = false := decide_eq_false c200
            have c200b1 : decide ((x305001_59.size : Int) ≤ x305002_59) = true := decide_eq_true (by omega)
            clear c200
            (first | rw [c200b0] | (simp only [i64_w, i32_w]; rw [c200b0]) | skip)
            by_cases c206 : a1_3.toList = a1_1.toList
            ·rw [if_pos c206] at H
             have c206b0 : (a1_3.toList == a1_1.toList) = true := beq_iff_eq.mpr c206
             have c206b1 : (a1_3.toList != a1_1.toList) = false := bne_eq_false_iff_eq.mpr c206
             clear c206
             have H' := Aside0.mk H
             clear H
             obtain ⟨hnb207, hnc207⟩ := zn2 NB304_298
             obtain ⟨hnb208, hnc208⟩ := zn2 NB304_299
             obtain ⟨hnb209, hnc209⟩ := zn2 NB304_300
             obtain ⟨hnb210, hnc210⟩ := zn2 NB304_306
             obtain ⟨hcz211_0, hcz211_1, hcz211_2, hfz211_0, hfz211_1, hfz211_2⟩ := zc3 BK304.out
             obtain ⟨hnb212, hnc212⟩ := zn2 NB299_298
             obtain ⟨hnb213, hnc213⟩ := zn2 NB299_300
             obtain ⟨hnb214, hnc214⟩ := zn2 NB299_306
             obtain ⟨hcz215_0, hcz215_1, hcz215_2, hcz215_3, hfz215_0, hfz215_1, hfz215_2, hfz215_3⟩ := zc4 BK299.out
             go_wp2
             go_meet
             case rel => exact ⟨_, (true), (by first | rfl | (simp; done) | (simp [*]; done)), H', ⟨by have := HJ2.out; have := HJ59.out; first | omega | exact Nat.le_refl _⟩, ⟨zf1 BK298.out NB298_306.out⟩, ⟨zf1 BK299.out NB299_306.out⟩, ⟨zf1 BK300.out NB300_306.out⟩, ⟨zf1 BK304.out NB304_306.out⟩, ⟨by (with_reducible repeat (first | refine blk_drewN ?_ _ | refine blk_drew ?_ | refine blk_alloc ?_ _)); refine blk_put (cs := #[.slice none 0 0]) ?_ 0 _ rfl; (with_reducible repeat (first | refine blk_drewN ?_ _ | refine blk_drew ?_ | refine blk_alloc ?_ _)); exact BK306.out⟩, ⟨zb5 HB.out GE298.out GE299.out GE300.out GE304.out GE306.out⟩⟩
            ·rw [if_neg c206] at H
             have c206b0 : (a1_3.toList == a1_1.toList) = false := beq_eq_false_iff_ne.mpr c206
             have c206b1 : (a1_3.toList != a1_1.toList) = true := bne_iff_ne.mpr c206
             replace H := Option.bind_eq_some_iff.mp H
             obtain ⟨t315, A2160, H⟩ := H
             try dsimp only at H
             have A216 := Aside0.mk A2160
             clear A2160
             have H' := Aside0.mk H
             clear H
             obtain ⟨hnb217, hnc217⟩ := zn2 NB304_298
             obtain ⟨hnb218, hnc218⟩ := zn2 NB304_299
             obtain ⟨hnb219, hnc219⟩ := zn2 NB304_300
             obtain ⟨hnb220, hnc220⟩ := zn2 NB304_306
             obtain ⟨hcz221_0, hcz221_1, hcz221_2, hfz221_0, hfz221_1, hfz221_2⟩ := zc3 BK304.out
             obtain ⟨hnb222, hnc222⟩ := zn2 NB299_298
             obtain ⟨hnb223, hnc223⟩ := zn2 NB299_300
             obtain ⟨hnb224, hnc224⟩ := zn2 NB299_306
             obtain ⟨hcz225_0, hcz225_1, hcz225_2, hcz225_3, hfz225_0, hfz225_1, hfz225_2, hfz225_3⟩ := zc4 BK299.out
             go_wp2_with (first | (go_at_call 33; (with_reducible refine (spec_l03Name.calls a1_3 t315 _ A216.out).mono ?_); rintro e w' ⟨rfl, ⟨nd, rfl⟩⟩))
             go_meet
             case rel => exact ⟨_, (!t315), (by first | rfl | (simp; done) | (simp [*]; done)), H', ⟨by have := HJ2.out; have := HJ59.out; first | omega | exact Nat.le_refl _⟩, ⟨zf1 BK298.out NB298_306.out⟩, ⟨zf1 BK299.out NB299_306.out⟩, ⟨zf1 BK300.out NB300_306.out⟩, ⟨zf1 BK304.out NB304_306.out⟩, ⟨by (with_reducible repeat (first | refine blk_drewN ?_ _ | refine blk_drew ?_ | refine blk_alloc ?_ _)); refine blk_put (cs := #[.slice none 0 0]) ?_ 0 _ rfl; (with_reducible repeat (first | refine blk_drewN ?_ _ | refine blk_drew ?_ | refine blk_alloc ?_ _)); exact BK306.out⟩, ⟨zb5 HB.out GE298.out GE299.out GE300.out GE304.out GE306.out⟩⟩
          case rest =>
           clear HC189
           obtain ⟨kq, x105_188, rfl, HA, HJ188, BK298, BK299, BK300, BK304, BK306, HB⟩ := hcut
           cases kq with
           | zero => exact absurd HA.out (by simp [spec_DoAct.j2])
           | succ kj188 =>
            have H := HA.out
            clear HA
            simp only [spec_DoAct.j2] at H
            by_cases c226 : x105_188 = true
            ·subst c226
             have H1 : (some (([] : List (S66)), false)) = some (r1, r2) := by rw [if_pos rfl] at H; exact H
             clear H
             have H := H1
             clear H1
             simp only [Option.some.injEq, Prod.mk.injEq] at H
             obtain ⟨rfl, rfl⟩ := H
             obtain ⟨hnb227, hnc227⟩ := zn2 NB300_298
             obtain ⟨hnb228, hnc228⟩ := zn2 NB300_299
             obtain ⟨hnb229, hnc229⟩ := zn2 NB300_304
             obtain ⟨hnb230, hnc230⟩ := zn2 NB300_306
             obtain ⟨hcz231_0, hfz231_0⟩ := zc1 BK300.out
             go_wp2
             refine bodyPost_ret (results_ct rfl _ _ gb300 31 #[.slice none 0 0] (0, 0) _ rfl (by (with_reducible repeat (first | refine blk_drewN ?_ _ | refine blk_drew ?_ | refine blk_alloc ?_ _)); refine blk_put (cs := #[.slice none 0 0]) ?_ 0 _ rfl; (with_reducible repeat (first | refine blk_drewN ?_ _ | refine blk_drew ?_ | refine blk_alloc ?_ _)); exact BK300.out) Try.underlying31 rfl (by kernel_rfl)) rfl ?_
             exact ⟨_, by first | rfl | (simp [errW_none, errW_some] <;> rfl) | (simp [*, errW_none, errW_some] <;> rfl), by first | exact Kd.R_nil _ _ _ _ _ | exact Kd.N_nil _ _ _ _ _ | exact Kd.V_nil _ _ _ _ _ | exact Kd.Q_nil _ _ _ _ _ | exact Kd.S_nil _ _ _ _ _, zb5 HB.out GE298.out GE299.out GE300.out GE304.out GE306.out⟩
            ·replace c226 := Bool.eq_false_iff.mpr c226
             subst c226
             have H1 : ((spec_l03Without.f kj188 l0_0 a1_1).bind fun t316 => ((spec_l03Put.f kj188 t316 a1_3 x305001_59 x305002_59).bind fun t319 => ((spec_DiskOk.f kj188 t319).bind fun t322 => (if t322 = true then (some (t319, true)) else (some (([] : List (S66)), false)))))) = some (r1, r2) := by rw [if_neg (show ¬ (false = true) by decide)] at H; exact H
             clear H
             have H := H1
             clear H1
             replace H := Option.bind_eq_some_iff.mp H
             obtain ⟨t316, A2320, H⟩ := H
             try dsimp only at H
             have A232 := Aside0.mk A2320
             clear A2320
             replace H := Option.bind_eq_some_iff.mp H
             obtain ⟨t319, A2330, H⟩ := H
             try dsimp only at H
             have A233 := Aside0.mk A2330
             clear A2330
             replace H := Option.bind_eq_some_iff.mp H
             obtain ⟨t322, A2340, H⟩ := H
             try dsimp only at H
             have A234 := Aside0.mk A2340
             clear A2340
             by_cases c235 : t322 = true
             ·subst c235
              have H1 : (some (t319, true)) = some (r1, r2) := by rw [if_pos rfl] at H; exact H
              clear H
              have H := H1
              clear H1
              simp only [Option.some.injEq, Prod.mk.injEq] at H
              obtain ⟨rfl, rfl⟩ := H
              obtain ⟨hnb236, hnc236⟩ := zn2 NB299_298
              obtain ⟨hnb237, hnc237⟩ := zn2 NB299_300
              obtain ⟨hnb238, hnc238⟩ := zn2 NB299_304
              obtain ⟨hnb239, hnc239⟩ := zn2 NB299_306
              obtain ⟨hcz240_0, hcz240_1, hcz240_2, hcz240_3, hfz240_0, hfz240_1, hfz240_2, hfz240_3⟩ := zc4 BK299.out
              obtain ⟨hnb241, hnc241⟩ := zn2 NB304_298
              obtain ⟨hnb242, hnc242⟩ := zn2 NB304_300
              obtain ⟨hnb243, hnc243⟩ := zn2 NB304_306
              obtain ⟨hcz244_0, hcz244_1, hcz244_2, hfz244_0, hfz244_1, hfz244_2⟩ := zc3 BK304.out
              try go_wp2
              have n0_ : Aside0 ((wc.setCell ⟨gb304, 0, none⟩ (.string a1_3)).heap[gb298]? = some (.cells #[.slice A0_0 l0_0.length c0_0] 31 (0, 0))) := ⟨zf1 BK298.out NB298_304.out⟩
              have n1_ : Aside0 ((wc.setCell ⟨gb304, 0, none⟩ (.string a1_3)).heap[gb299]? = some (.cells #[.int .i64 a1_0, .string a1_1, .string a1_2, .string a1_3] 35 (0, 0))) := ⟨zf1 BK299.out NB299_304.out⟩
              have n2_ : Aside0 ((wc.setCell ⟨gb304, 0, none⟩ (.string a1_3)).heap[gb300]? = some (.cells #[.slice none 0 0] 31 (0, 0))) := ⟨zf1 BK300.out NB300_304.out⟩
              have n3_ : Aside0 ((wc.setCell ⟨gb304, 0, none⟩ (.string a1_3)).heap[gb304]? = some (.cells #[.string a1_3, .string x305001_59, .int .i64 x305002_59] 66 (0, 0))) := ⟨by (with_reducible repeat (first | refine blk_drewN ?_ _ | refine blk_drew ?_ | refine blk_alloc ?_ _)); refine blk_put (cs := #[.string x305000_59, .string x305001_59, .int .i64 x305002_59]) ?_ 0 _ rfl; (with_reducible repeat (first | refine blk_drewN ?_ _ | refine blk_drew ?_ | refine blk_alloc ?_ _)); exact BK304.out⟩
              have n4_ : Aside0 ((wc.setCell ⟨gb304, 0, none⟩ (.string a1_3)).heap[gb306]? = some (.cells #[.slice none 0 0] 31 (0, 0))) := ⟨zf1 BK306.out NB306_304.out⟩
              have n5_ : Aside0 (Below w.heap.size w (wc.setCell ⟨gb304, 0, none⟩ (.string a1_3))) := ⟨zb5 HB.out GE298.out GE299.out GE300.out GE304.out GE306.out⟩
              generalize (wc.setCell ⟨gb304, 0, none⟩ (.string a1_3)) = w245 at n0_ n1_ n2_ n3_ n4_ n5_ ⊢
              have BK298 := n0_
              have BK299 := n1_
              have BK300 := n2_
              have BK304 := n3_
              have BK306 := n4_
              have HB := n5_
              clear n0_ n1_ n2_ n3_ n4_ n5_
              replace BK298 := am (blk_drew BK298.out)
              replace BK299 := am (blk_drew BK299.out)
              replace BK300 := am (blk_drew BK300.out)
              replace BK304 := am (blk_drew BK304.out)
              replace BK306 := am (blk_drew BK306.out)
              replace HB := am (below_drew1 HB.out)
              refine start_ (n := 7) (S := fun w' => w'.cell? ⟨gb298, 0, none⟩ = some (.slice A0_0 l0_0.length c0_0) ∧ w'.cell? ⟨gb299, 0, none⟩ = some (.int .i64 a1_0) ∧ w'.cell? ⟨gb299, 1, none⟩ = some (.string a1_1) ∧ w'.cell? ⟨gb299, 2, none⟩ = some (.string a1_2) ∧ w'.cell? ⟨gb299, 3, none⟩ = some (.string a1_3) ∧ w'.cell? ⟨gb304, 0, none⟩ = some (.string a1_3) ∧ w'.cell? ⟨gb304, 1, none⟩ = some (.string x305001_59) ∧ w'.cell? ⟨gb304, 2, none⟩ = some (.int .i64 x305002_59)) (ds := []) #[false, false, false, false, false, false, false] (by kernel_rfl) rfl rfl ⟨ct BK298.out 0, ct BK299.out 0, ct BK299.out 1, ct BK299.out 2, ct BK299.out 3, ct BK304.out 0, ct BK304.out 1, ct BK304.out 2⟩ (fun hHeld => ?_)
              generalize w245.drew = w246 at BK298 BK299 BK300 BK304 BK306 HB hHeld ⊢
              refine pure_ (i := 1) (N := some 111) (v := ?_) (a' := ?_) #[false, true, false, false, false, false, false] rfl rfl (by kernel_rfl) (fun _ _ _ h => h) (Or.inl ⟨by rfl, ?_⟩) ?_ ?_
              rotate_left
              ·intro w'
               go_simp
               with_reducible rfl
              rotate_left
              ·simp only [Act.put, List.setIfInBounds_toArray, List.set_cons_zero, List.set_cons_succ, i64_w, i32_w]
               rfl
              refine take_ (i := 0) (N := some 110) (v := ?_) (a' := ?_) #[true, true, false, false, false, false, false] rfl rfl (by kernel_rfl) (fun _ _ _ h => h) (Or.inl ⟨by rfl, ?_⟩) hHeld ?_ ?_
              rotate_left
              ·rintro w' ⟨s0, s1, s2, s3, s4, s5, s6, s7⟩
               go_simp
               with_reducible rfl
              rotate_left
              ·simp only [Act.put, List.setIfInBounds_toArray, List.set_cons_zero, List.set_cons_succ, i64_w, i32_w]
               rfl
              refine take_ (i := 2) (N := some 112) (v := ?_) (a' := ?_) #[true, true, true, false, false, false, false] rfl rfl (by kernel_rfl) (fun _ _ _ h => h) (Or.inl ⟨by rfl, ?_⟩) hHeld ?_ ?_
              rotate_left
              ·rintro w' ⟨s0, s1, s2, s3, s4, s5, s6, s7⟩
               go_simp
               with_reducible rfl
              rotate_left
              ·simp only [Act.put, List.setIfInBounds_toArray, List.set_cons_zero, List.set_cons_succ, i64_w, i32_w]
               rfl
              refine take_ (i := 4) (N := some 114) (v := ?_) (a' := ?_) #[true, true, true, false, true, false, false] rfl rfl (by kernel_rfl) (fun _ _ _ h => h) (Or.inl ⟨by rfl, ?_⟩) hHeld ?_ ?_
              rotate_left
              ·rintro w' ⟨s0, s1, s2, s3, s4, s5, s6, s7⟩
               go_simp
               with_reducible rfl
              rotate_left
              ·simp only [Act.put, List.setIfInBounds_toArray, List.set_cons_zero, List.set_cons_succ, i64_w, i32_w]
               rfl
              refine one_ (i := 3) (N := some 113) #[true, true, true, true, true, false, false] rfl rfl (by kernel_rfl) (by decide) (fun K hK => ?_)
              refine goes_ Try.func36 (by kernel_rfl) rfl #[.agg #[.slice A0_0 l0_0.length c0_0], .string a1_1] (by rfl) rfl rfl zr ?_
              with_reducible refine (spec_l03Without.calls kj188 _ _ l0_0 a1_1 t316 _ ?side1 ?side2 A232.out).mono ?_
              (case side1 => repeat (first | exact (Kd.C_below HR0_0.out HB.out) | (with_reducible refine Kd.C_alloc ?_ _) | (with_reducible refine Kd.C_drewN ?_ _) | (with_reducible refine Kd.C_drew ?_)))
              (case side2 => exact HC0_0.out)
              rintro e w247 ⟨v317, rfl, ho0, hb⟩
              refine ⟨_, rfl, ?_⟩
              have HO318 := am (Kd.R_lower (Kd.R_newB ho0 (g := gb304) (o := .cells #[.string a1_3, .string x305001_59, .int .i64 x305002_59] 66 (0, 0)) (kx BK304.out)) (below_size (zb5 HB.out GE298.out GE299.out GE300.out GE304.out GE306.out)))
              replace BK298 := zk hb BK298
              replace BK299 := zk hb BK299
              replace BK300 := zk hb BK300
              replace BK304 := zk hb BK304
              replace BK306 := zk hb BK306
              replace HB := zs5 hb HB GE298 GE299 GE300 GE304 GE306
              obtain ⟨Ao248, co248, eo248⟩ := Kd.R_slice HO318.out
              (first | subst eo248 | (injection eo248 with f1_ f2_ f3_; have f4_ := f1_.symm; have f5_ := f3_.symm; clear f1_ f2_ f3_; subst f4_; subst f5_))
              refine hK.out _ _ ⟨ct BK298.out 0, ct BK299.out 0, ct BK299.out 1, ct BK299.out 2, ct BK299.out 3, ct BK304.out 0, ct BK304.out 1, ct BK304.out 2⟩ (fun hHeld => ?_)
              clear hK K
              refine znm 113 ?_
              refine one_ (i := 5) (N := some 115) #[true, true, true, true, true, true, false] rfl rfl (by kernel_rfl) (by decide) (fun K hK => ?_)
              refine goes_ Try.func35 (by kernel_rfl) rfl #[.agg #[.slice Ao248 t316.length co248], .agg #[.string a1_3, .string x305001_59, .int .i64 x305002_59]] (by rfl) rfl rfl zr ?_
              with_reducible refine (spec_l03Put.calls kj188 _ _ t316 a1_3 x305001_59 x305002_59 t319 _ ?side1 ?side2 A233.out).mono ?_
              (case side1 => repeat (first | exact (Kd.R_reads' HO318.out).2.2 | (with_reducible refine Kd.C_alloc ?_ _) | (with_reducible refine Kd.C_drewN ?_ _) | (with_reducible refine Kd.C_drew ?_)))
              (case side2 => exact (Kd.R_reads' HO318.out).2.1)
              rintro e w249 ⟨v320, rfl, ho0, hb⟩
              refine ⟨_, rfl, ?_⟩
              have HO321 := am (Kd.R_lower (Kd.R_newB (Kd.R_new' ho0 (Kd.R_lt (rx HO318.out))) (g := gb304) (o := .cells #[.string a1_3, .string x305001_59, .int .i64 x305002_59] 66 (0, 0)) (kx BK304.out)) (below_size (zb5 HB.out GE298.out GE299.out GE300.out GE304.out GE306.out)))
              replace HO318 := am (Kd.R_elder' (rx HO318.out) (Kd.R_base ho0) hb)
              replace BK298 := zk hb BK298
              replace BK299 := zk hb BK299
              replace BK300 := zk hb BK300
              replace BK304 := zk hb BK304
              replace BK306 := zk hb BK306
              replace HB := zs5 hb HB GE298 GE299 GE300 GE304 GE306
              obtain ⟨Ao250, co250, eo250⟩ := Kd.R_slice HO321.out
              (first | subst eo250 | (injection eo250 with f1_ f2_ f3_; have f4_ := f1_.symm; have f5_ := f3_.symm; clear f1_ f2_ f3_; subst f4_; subst f5_))
              refine hK.out _ _ ⟨ct BK298.out 0, ct BK299.out 0, ct BK299.out 1, ct BK299.out 2, ct BK299.out 3, ct BK304.out 0, ct BK304.out 1, ct BK304.out 2⟩ (fun hHeld => ?_)
              clear hK K
              refine znm 115 ?_
              refine one_ (i := 6) (N := none) #[true, true, true, true, true, true, true] rfl rfl (by kernel_rfl) (by decide) (fun K hK => ?_)
              have hs251 : w249.cell? ⟨gb306, 0, none⟩ = some (.slice none 0 0) := ct BK306.out 0
              have hfs251 := blk_frozen BK306.out 0
              have hns251_0 := NB298_306.out
              have hns251_1 := NB299_306.out
              have hns251_2 := NB300_306.out
              have hns251_3 := NB304_306.out
              have hms251_0 := NB306_298.out
              have hms251_1 := NB306_299.out
              have hms251_2 := NB306_300.out
              have hms251_3 := NB306_304.out
              refine skip_ (w1 := ?_) (by rfl) rfl ?_ ?_
              rotate_left
              ·go_simp
               rfl
              refine hK.out _ _ ⟨((cell_far (p := ⟨gb306, _, none⟩) NB298_306.out _).trans (hHeld.1)), ((cell_far (p := ⟨gb306, _, none⟩) NB299_306.out _).trans (hHeld.2.1)), ((cell_far (p := ⟨gb306, _, none⟩) NB299_306.out _).trans (hHeld.2.2.1)), ((cell_far (p := ⟨gb306, _, none⟩) NB299_306.out _).trans (hHeld.2.2.2.1)), ((cell_far (p := ⟨gb306, _, none⟩) NB299_306.out _).trans (hHeld.2.2.2.2.1)), ((cell_far (p := ⟨gb306, _, none⟩) NB304_306.out _).trans (hHeld.2.2.2.2.2.1)), ((cell_far (p := ⟨gb306, _, none⟩) NB304_306.out _).trans (hHeld.2.2.2.2.2.2.1)), ((cell_far (p := ⟨gb306, _, none⟩) NB304_306.out _).trans (hHeld.2.2.2.2.2.2.2))⟩ (fun hHeld => ?_)
              clear hK K
              refine done_ (by kernel_rfl) ?_
              obtain ⟨hnb252, hnc252⟩ := zn2 NB306_298
              obtain ⟨hnb253, hnc253⟩ := zn2 NB306_300
              obtain ⟨hcz254_0, hfz254_0⟩ := zc1 BK306.out
              try go_wp2_with (first | ((with_reducible refine gate_callee (f := 32) rfl ?_); refine goesL_ (some 125) rfl rfl Try.func32 (by kernel_rfl) rfl #[.agg #[.slice Ao250 t319.length co250]] rfl zr ?_; (with_reducible refine (spec_DiskOk.calls kj188 _ _ t319 true _ ?side1 ?side2 A234.out).mono ?_); (case side1 => refine (Kd.R_reads' (e := 66) (base := w.heap.size) (ok := fun k_ => ((True ∧ some k_ ≠ (.slice Ao248 t316.length co248 : Value).ownBlock) ∧ k_ ≠ gb304)) (n := t319.length) (c := co250) ?_).2.2; exact (rx ((Kd.R_mono (Kd.R_far (p := ⟨gb306, 0, none⟩) (Kd.R_types HO321.out BK306.out (by decide)) (fun _ hk => hk.2) (.slice Ao250 t319.length co250)) (fun _ h_ => h_.1))))); (case side2 => exact (Kd.R_reads' HO321.out).2.1); rintro e w255 ⟨rfl, hb⟩; refine ⟨_, rfl, ?_⟩; replace HO318 := am (Kd.R_below (rx ((Kd.R_mono (Kd.R_far (p := ⟨gb306, 0, none⟩) (Kd.R_types HO318.out BK306.out (by decide)) (fun _ hk => hk.2) (.slice Ao250 t319.length co250)) (fun _ h_ => h_.1)))) hb); replace HO321 := am (Kd.R_below (rx ((Kd.R_mono (Kd.R_far (p := ⟨gb306, 0, none⟩) (Kd.R_types HO321.out BK306.out (by decide)) (fun _ hk => hk.2) (.slice Ao250 t319.length co250)) (fun _ h_ => h_.1)))) hb); replace BK298 := zh1 hb BK298 NB298_306; replace BK299 := zh1 hb BK299 NB299_306; replace BK300 := zh1 hb BK300 NB300_306; replace BK304 := zh1 hb BK304 NB304_306; replace BK306 := am (blk_below (g := gb306) (o := .cells #[.slice Ao250 t319.length co250] 31 (0, 0)) (by (with_reducible repeat (first | refine blk_drewN ?_ _ | refine blk_drew ?_ | refine blk_alloc ?_ _)); refine blk_put (cs := #[.slice none 0 0]) ?_ 0 _ rfl; (with_reducible repeat (first | refine blk_drewN ?_ _ | refine blk_drew ?_ | refine blk_alloc ?_ _)); exact BK306.out) hb); replace HB := zs5 hb HB GE298 GE299 GE300 GE304 GE306; clear hb; obtain ⟨hcz256_0, hfz256_0⟩ := zc1 BK306.out; obtain ⟨hnb257, hnc257⟩ := zn2 NB300_298; obtain ⟨hcz258_0, hfz258_0⟩ := zc1 BK300.out))
              refine bodyPost_ret (results_ct rfl _ _ gb300 31 #[.slice Ao250 t319.length co250] (0, 0) _ rfl (by (with_reducible repeat (first | refine blk_drewN ?_ _ | refine blk_drew ?_ | refine blk_alloc ?_ _)); refine blk_put (cs := #[.slice none 0 0]) ?_ 0 _ rfl; (with_reducible repeat (first | refine blk_drewN ?_ _ | refine blk_drew ?_ | refine blk_alloc ?_ _)); exact BK300.out) Try.underlying31 rfl (by kernel_rfl)) rfl ?_
              exact ⟨_, by first | rfl | (simp [errW_none, errW_some] <;> rfl) | (simp [*, errW_none, errW_some] <;> rfl), rx (Kd.R_mono (Kd.R_far (p := ⟨gb300, 0, none⟩) (Kd.R_types HO321.out BK300.out (by decide)) (fun _ hk => hk.2) (.slice Ao250 t319.length co250)) (fun _ hk => trivial)), zb5 HB.out GE298.out GE299.out GE300.out GE304.out GE306.out⟩
             ·replace c235 := Bool.eq_false_iff.mpr c235
              subst c235
              have H1 : (some (([] : List (S66)), false)) = some (r1, r2) := by rw [if_neg (show ¬ (false = true) by decide)] at H; exact H
              clear H
              have H := H1
              clear H1
              simp only [Option.some.injEq, Prod.mk.injEq] at H
              obtain ⟨rfl, rfl⟩ := H
              obtain ⟨hnb259, hnc259⟩ := zn2 NB299_298
              obtain ⟨hnb260, hnc260⟩ := zn2 NB299_300
              obtain ⟨hnb261, hnc261⟩ := zn2 NB299_304
              obtain ⟨hnb262, hnc262⟩ := zn2 NB299_306
              obtain ⟨hcz263_0, hcz263_1, hcz263_2, hcz263_3, hfz263_0, hfz263_1, hfz263_2, hfz263_3⟩ := zc4 BK299.out
              obtain ⟨hnb264, hnc264⟩ := zn2 NB304_298
              obtain ⟨hnb265, hnc265⟩ := zn2 NB304_300
              obtain ⟨hnb266, hnc266⟩ := zn2 NB304_306
              obtain ⟨hcz267_0, hcz267_1, hcz267_2, hfz267_0, hfz267_1, hfz267_2⟩ := zc3 BK304.out
              try go_wp2
              have n0_ : Aside0 ((wc.setCell ⟨gb304, 0, none⟩ (.string a1_3)).heap[gb298]? = some (.cells #[.slice A0_0 l0_0.length c0_0] 31 (0, 0))) := ⟨zf1 BK298.out NB298_304.out⟩
              have n1_ : Aside0 ((wc.setCell ⟨gb304, 0, none⟩ (.string a1_3)).heap[gb299]? = some (.cells #[.int .i64 a1_0, .string a1_1, .string a1_2, .string a1_3] 35 (0, 0))) := ⟨zf1 BK299.out NB299_304.out⟩
              have n2_ : Aside0 ((wc.setCell ⟨gb304, 0, none⟩ (.string a1_3)).heap[gb300]? = some (.cells #[.slice none 0 0] 31 (0, 0))) := ⟨zf1 BK300.out NB300_304.out⟩
              have n3_ : Aside0 ((wc.setCell ⟨gb304, 0, none⟩ (.string a1_3)).heap[gb304]? = some (.cells #[.string a1_3, .string x305001_59, .int .i64 x305002_59] 66 (0, 0))) := ⟨by (with_reducible repeat (first | refine blk_drewN ?_ _ | refine blk_drew ?_ | refine blk_alloc ?_ _)); refine blk_put (cs := #[.string x305000_59, .string x305001_59, .int .i64 x305002_59]) ?_ 0 _ rfl; (with_reducible repeat (first | refine blk_drewN ?_ _ | refine blk_drew ?_ | refine blk_alloc ?_ _)); exact BK304.out⟩
              have n4_ : Aside0 ((wc.setCell ⟨gb304, 0, none⟩ (.string a1_3)).heap[gb306]? = some (.cells #[.slice none 0 0] 31 (0, 0))) := ⟨zf1 BK306.out NB306_304.out⟩
              have n5_ : Aside0 (Below w.heap.size w (wc.setCell ⟨gb304, 0, none⟩ (.string a1_3))) := ⟨zb5 HB.out GE298.out GE299.out GE300.out GE304.out GE306.out⟩
              generalize (wc.setCell ⟨gb304, 0, none⟩ (.string a1_3)) = w268 at n0_ n1_ n2_ n3_ n4_ n5_ ⊢
              have BK298 := n0_
              have BK299 := n1_
              have BK300 := n2_
              have BK304 := n3_
              have BK306 := n4_
              have HB := n5_
              clear n0_ n1_ n2_ n3_ n4_ n5_
              replace BK298 := am (blk_drew BK298.out)
              replace BK299 := am (blk_drew BK299.out)
              replace BK300 := am (blk_drew BK300.out)
              replace BK304 := am (blk_drew BK304.out)
              replace BK306 := am (blk_drew BK306.out)
              replace HB := am (below_drew1 HB.out)
              refine start_ (n := 7) (S := fun w' => w'.cell? ⟨gb298, 0, none⟩ = some (.slice A0_0 l0_0.length c0_0) ∧ w'.cell? ⟨gb299, 0, none⟩ = some (.int .i64 a1_0) ∧ w'.cell? ⟨gb299, 1, none⟩ = some (.string a1_1) ∧ w'.cell? ⟨gb299, 2, none⟩ = some (.string a1_2) ∧ w'.cell? ⟨gb299, 3, none⟩ = some (.string a1_3) ∧ w'.cell? ⟨gb304, 0, none⟩ = some (.string a1_3) ∧ w'.cell? ⟨gb304, 1, none⟩ = some (.string x305001_59) ∧ w'.cell? ⟨gb304, 2, none⟩ = some (.int .i64 x305002_59)) (ds := []) #[false, false, false, false, false, false, false] (by kernel_rfl) rfl rfl ⟨ct BK298.out 0, ct BK299.out 0, ct BK299.out 1, ct BK299.out 2, ct BK299.out 3, ct BK304.out 0, ct BK304.out 1, ct BK304.out 2⟩ (fun hHeld => ?_)
              generalize w268.drew = w269 at BK298 BK299 BK300 BK304 BK306 HB hHeld ⊢
              refine pure_ (i := 1) (N := some 111) (v := ?_) (a' := ?_) #[false, true, false, false, false, false, false] rfl rfl (by kernel_rfl) (fun _ _ _ h => h) (Or.inl ⟨by rfl, ?_⟩) ?_ ?_
              rotate_left
              ·intro w'
               go_simp
               with_reducible rfl
              rotate_left
              ·simp only [Act.put, List.setIfInBounds_toArray, List.set_cons_zero, List.set_cons_succ, i64_w, i32_w]
               rfl
              refine take_ (i := 0) (N := some 110) (v := ?_) (a' := ?_) #[true, true, false, false, false, false, false] rfl rfl (by kernel_rfl) (fun _ _ _ h => h) (Or.inl ⟨by rfl, ?_⟩) hHeld ?_ ?_
              rotate_left
              ·rintro w' ⟨s0, s1, s2, s3, s4, s5, s6, s7⟩
               go_simp
               with_reducible rfl
              rotate_left
              ·simp only [Act.put, List.setIfInBounds_toArray, List.set_cons_zero, List.set_cons_succ, i64_w, i32_w]
               rfl
              refine take_ (i := 2) (N := some 112) (v := ?_) (a' := ?_) #[true, true, true, false, false, false, false] rfl rfl (by kernel_rfl) (fun _ _ _ h => h) (Or.inl ⟨by rfl, ?_⟩) hHeld ?_ ?_
              rotate_left
              ·rintro w' ⟨s0, s1, s2, s3, s4, s5, s6, s7⟩
               go_simp
               with_reducible rfl
              rotate_left
              ·simp only [Act.put, List.setIfInBounds_toArray, List.set_cons_zero, List.set_cons_succ, i64_w, i32_w]
               rfl
              refine take_ (i := 4) (N := some 114) (v := ?_) (a' := ?_) #[true, true, true, false, true, false, false] rfl rfl (by kernel_rfl) (fun _ _ _ h => h) (Or.inl ⟨by rfl, ?_⟩) hHeld ?_ ?_
              rotate_left
              ·rintro w' ⟨s0, s1, s2, s3, s4, s5, s6, s7⟩
               go_simp
               with_reducible rfl
              rotate_left
              ·simp only [Act.put, List.setIfInBounds_toArray, List.set_cons_zero, List.set_cons_succ, i64_w, i32_w]
               rfl
              refine one_ (i := 3) (N := some 113) #[true, true, true, true, true, false, false] rfl rfl (by kernel_rfl) (by decide) (fun K hK => ?_)
              refine goes_ Try.func36 (by kernel_rfl) rfl #[.agg #[.slice A0_0 l0_0.length c0_0], .string a1_1] (by rfl) rfl rfl zr ?_
              with_reducible refine (spec_l03Without.calls kj188 _ _ l0_0 a1_1 t316 _ ?side1 ?side2 A232.out).mono ?_
              (case side1 => repeat (first | exact (Kd.C_below HR0_0.out HB.out) | (with_reducible refine Kd.C_alloc ?_ _) | (with_reducible refine Kd.C_drewN ?_ _) | (with_reducible refine Kd.C_drew ?_)))
              (case side2 => exact HC0_0.out)
              rintro e w270 ⟨v317, rfl, ho0, hb⟩
              refine ⟨_, rfl, ?_⟩
              have HO318 := am (Kd.R_lower (Kd.R_newB ho0 (g := gb304) (o := .cells #[.string a1_3, .string x305001_59, .int .i64 x305002_59] 66 (0, 0)) (kx BK304.out)) (below_size (zb5 HB.out GE298.out GE299.out GE300.out GE304.out GE306.out)))
              replace BK298 := zk hb BK298
              replace BK299 := zk hb BK299
              replace BK300 := zk hb BK300
              replace BK304 := zk hb BK304
              replace BK306 := zk hb BK306
              replace HB := zs5 hb HB GE298 GE299 GE300 GE304 GE306
              obtain ⟨Ao271, co271, eo271⟩ := Kd.R_slice HO318.out
              (first | subst eo271 | (injection eo271 with f1_ f2_ f3_; have f4_ := f1_.symm; have f5_ := f3_.symm; clear f1_ f2_ f3_; subst f4_; subst f5_))
              refine hK.out _ _ ⟨ct BK298.out 0, ct BK299.out 0, ct BK299.out 1, ct BK299.out 2, ct BK299.out 3, ct BK304.out 0, ct BK304.out 1, ct BK304.out 2⟩ (fun hHeld => ?_)
              clear hK K
              refine znm 113 ?_
              refine one_ (i := 5) (N := some 115) #[true, true, true, true, true, true, false] rfl rfl (by kernel_rfl) (by decide) (fun K hK => ?_)
              refine goes_ Try.func35 (by kernel_rfl) rfl #[.agg #[.slice Ao271 t316.length co271], .agg #[.string a1_3, .string x305001_59, .int .i64 x305002_59]] (by rfl) rfl rfl zr ?_
              with_reducible refine (spec_l03Put.calls kj188 _ _ t316 a1_3 x305001_59 x305002_59 t319 _ ?side1 ?side2 A233.out).mono ?_
              (case side1 => repeat (first | exact (Kd.R_reads' HO318.out).2.2 | (with_reducible refine Kd.C_alloc ?_ _) | (with_reducible refine Kd.C_drewN ?_ _) | (with_reducible refine Kd.C_drew ?_)))
              (case side2 => exact (Kd.R_reads' HO318.out).2.1)
              rintro e w272 ⟨v320, rfl, ho0, hb⟩
              refine ⟨_, rfl, ?_⟩
              have HO321 := am (Kd.R_lower (Kd.R_newB (Kd.R_new' ho0 (Kd.R_lt (rx HO318.out))) (g := gb304) (o := .cells #[.string a1_3, .string x305001_59, .int .i64 x305002_59] 66 (0, 0)) (kx BK304.out)) (below_size (zb5 HB.out GE298.out GE299.out GE300.out GE304.out GE306.out)))
              replace HO318 := am (Kd.R_elder' (rx HO318.out) (Kd.R_base ho0) hb)
              replace BK298 := zk hb BK298
              replace BK299 := zk hb BK299
              replace BK300 := zk hb BK300
              replace BK304 := zk hb BK304
              replace BK306 := zk hb BK306
              replace HB := zs5 hb HB GE298 GE299 GE300 GE304 GE306
              obtain ⟨Ao273, co273, eo273⟩ := Kd.R_slice HO321.out
              (first | subst eo273 | (injection eo273 with f1_ f2_ f3_; have f4_ := f1_.symm; have f5_ := f3_.symm; clear f1_ f2_ f3_; subst f4_; subst f5_))
              refine hK.out _ _ ⟨ct BK298.out 0, ct BK299.out 0, ct BK299.out 1, ct BK299.out 2, ct BK299.out 3, ct BK304.out 0, ct BK304.out 1, ct BK304.out 2⟩ (fun hHeld => ?_)
              clear hK K
              refine znm 115 ?_
              refine one_ (i := 6) (N := none) #[true, true, true, true, true, true, true] rfl rfl (by kernel_rfl) (by decide) (fun K hK => ?_)
              have hs274 : w272.cell? ⟨gb306, 0, none⟩ = some (.slice none 0 0) := ct BK306.out 0
              have hfs274 := blk_frozen BK306.out 0
              have hns274_0 := NB298_306.out
              have hns274_1 := NB299_306.out
              have hns274_2 := NB300_306.out
              have hns274_3 := NB304_306.out
              have hms274_0 := NB306_298.out
              have hms274_1 := NB306_299.out
              have hms274_2 := NB306_300.out
              have hms274_3 := NB306_304.out
              refine skip_ (w1 := ?_) (by rfl) rfl ?_ ?_
              rotate_left
              ·go_simp
               rfl
              refine hK.out _ _ ⟨((cell_far (p := ⟨gb306, _, none⟩) NB298_306.out _).trans (hHeld.1)), ((cell_far (p := ⟨gb306, _, none⟩) NB299_306.out _).trans (hHeld.2.1)), ((cell_far (p := ⟨gb306, _, none⟩) NB299_306.out _).trans (hHeld.2.2.1)), ((cell_far (p := ⟨gb306, _, none⟩) NB299_306.out _).trans (hHeld.2.2.2.1)), ((cell_far (p := ⟨gb306, _, none⟩) NB299_306.out _).trans (hHeld.2.2.2.2.1)), ((cell_far (p := ⟨gb306, _, none⟩) NB304_306.out _).trans (hHeld.2.2.2.2.2.1)), ((cell_far (p := ⟨gb306, _, none⟩) NB304_306.out _).trans (hHeld.2.2.2.2.2.2.1)), ((cell_far (p := ⟨gb306, _, none⟩) NB304_306.out _).trans (hHeld.2.2.2.2.2.2.2))⟩ (fun hHeld => ?_)
              clear hK K
              refine done_ (by kernel_rfl) ?_
              obtain ⟨hnb275, hnc275⟩ := zn2 NB306_298
              obtain ⟨hnb276, hnc276⟩ := zn2 NB306_300
              obtain ⟨hcz277_0, hfz277_0⟩ := zc1 BK306.out
              try go_wp2_with (first | ((with_reducible refine gate_callee (f := 32) rfl ?_); refine goesL_ (some 125) rfl rfl Try.func32 (by kernel_rfl) rfl #[.agg #[.slice Ao273 t319.length co273]] rfl zr ?_; (with_reducible refine (spec_DiskOk.calls kj188 _ _ t319 false _ ?side1 ?side2 A234.out).mono ?_); (case side1 => refine (Kd.R_reads' (e := 66) (base := w.heap.size) (ok := fun k_ => ((True ∧ some k_ ≠ (.slice Ao271 t316.length co271 : Value).ownBlock) ∧ k_ ≠ gb304)) (n := t319.length) (c := co273) ?_).2.2; exact (rx ((Kd.R_mono (Kd.R_far (p := ⟨gb306, 0, none⟩) (Kd.R_types HO321.out BK306.out (by decide)) (fun _ hk => hk.2) (.slice Ao273 t319.length co273)) (fun _ h_ => h_.1))))); (case side2 => exact (Kd.R_reads' HO321.out).2.1); rintro e w278 ⟨rfl, hb⟩; refine ⟨_, rfl, ?_⟩; replace HO318 := am (Kd.R_below (rx ((Kd.R_mono (Kd.R_far (p := ⟨gb306, 0, none⟩) (Kd.R_types HO318.out BK306.out (by decide)) (fun _ hk => hk.2) (.slice Ao273 t319.length co273)) (fun _ h_ => h_.1)))) hb); replace HO321 := am (Kd.R_below (rx ((Kd.R_mono (Kd.R_far (p := ⟨gb306, 0, none⟩) (Kd.R_types HO321.out BK306.out (by decide)) (fun _ hk => hk.2) (.slice Ao273 t319.length co273)) (fun _ h_ => h_.1)))) hb); replace BK298 := zh1 hb BK298 NB298_306; replace BK299 := zh1 hb BK299 NB299_306; replace BK300 := zh1 hb BK300 NB300_306; replace BK304 := zh1 hb BK304 NB304_306; replace BK306 := am (blk_below (g := gb306) (o := .cells #[.slice Ao273 t319.length co273] 31 (0, 0)) (by (with_reducible repeat (first | refine blk_drewN ?_ _ | refine blk_drew ?_ | refine blk_alloc ?_ _)); refine blk_put (cs := #[.slice none 0 0]) ?_ 0 _ rfl; (with_reducible repeat (first | refine blk_drewN ?_ _ | refine blk_drew ?_ | refine blk_alloc ?_ _)); exact BK306.out) hb); replace HB := zs5 hb HB GE298 GE299 GE300 GE304 GE306; clear hb; obtain ⟨hnb279, hnc279⟩ := zn2 NB300_298; obtain ⟨hcz280_0, hfz280_0⟩ := zc1 BK300.out))
              refine bodyPost_ret (results_ct rfl _ _ gb300 31 #[.slice none 0 0] (0, 0) _ rfl (by (with_reducible repeat (first | refine blk_drewN ?_ _ | refine blk_drew ?_ | refine blk_alloc ?_ _)); refine blk_put (cs := #[.slice none 0 0]) ?_ 0 _ rfl; (with_reducible repeat (first | refine blk_drewN ?_ _ | refine blk_drew ?_ | refine blk_alloc ?_ _)); exact BK300.out) Try.underlying31 rfl (by kernel_rfl)) rfl ?_
              exact ⟨_, by first | rfl | (simp [errW_none, errW_some] <;> rfl) | (simp [*, errW_none, errW_some] <;> rfl), by first | exact Kd.R_nil _ _ _ _ _ | exact Kd.N_nil _ _ _ _ _ | exact Kd.V_nil _ _ _ _ _ | exact Kd.Q_nil _ _ _ _ _ | exact Kd.S_nil _ _ _ _ _, zb5 HB.out GE298.out GE299.out GE300.out GE304.out GE306.out⟩
         ·rw [if_neg c188] at H
          have c188b0 : (a1_0 == 3) = false := beq_eq_false_iff_ne.mpr c188
          have c188b1 : (a1_0 != 3) = true := bne_iff_ne.mpr c188
          by_cases c281 : a1_0 = 4
          ·rw [if_pos c281] at H
           have c281b0 : (a1_0 == 4) = true := beq_iff_eq.mpr c281
           have c281b1 : (a1_0 != 4) = false := bne_eq_false_iff_eq.mpr c281
           clear c281
           replace H := Option.bind_eq_some_iff.mp H
           obtain ⟨t323, A2820, H⟩ := H
           try dsimp only at H
           have A282 := Aside0.mk A2820
           clear A2820
           replace H := Option.bind_eq_some_iff.mp H
           obtain ⟨t326, A2830, H⟩ := H
           try dsimp only at H
           have A283 := Aside0.mk A2830
           clear A2830
           by_cases c284 : t326 = true
           ·subst c284
            have H1 : (some (t323, true)) = some (r1, r2) := by rw [if_pos rfl] at H; exact H
            clear H
            have H := H1
            clear H1
            simp only [Option.some.injEq, Prod.mk.injEq] at H
            obtain ⟨rfl, rfl⟩ := H
            go_wp2_with (first | ((with_reducible refine gate_dst (N := 8) rfl ?_); refine box_event rfl (N := 8) rfl (cs := #[.slice none 0 0]) (t := 31) zrun ?_; intro gb306 hg w285 hbox hb; have BK306 := am (hbox); have GW306 := zge hg (zb4 HB.out GE298.out GE299.out GE300.out GE304.out); have GE306 := zge hg (zb4 HB.out GE298.out GE299.out GE300.out GE304.out); obtain ⟨NB298_306, NB306_298⟩ := zne hg BK298; obtain ⟨NB299_306, NB306_299⟩ := zne hg BK299; obtain ⟨NB300_306, NB306_300⟩ := zne hg BK300; obtain ⟨NB304_306, NB306_304⟩ := zne hg BK304; replace BK298 := zk hb BK298; replace BK299 := zk hb BK299; replace BK300 := zk hb BK300; replace BK304 := zk hb BK304; replace HB := zs4 hb HB GE298 GE299 GE300 GE304; clear hb hbox hg; obtain ⟨hnb286, hnc286⟩ := zn2 NB306_298; obtain ⟨hnb287, hnc287⟩ := zn2 NB306_299; obtain ⟨hnb288, hnc288⟩ := zn2 NB306_300; obtain ⟨hnb289, hnc289⟩ := zn2 NB306_304; obtain ⟨hcz290_0, hfz290_0⟩ := zc1 BK306.out; obtain ⟨hnb291, hnc291⟩ := zn2 NB299_298; obtain ⟨hnb292, hnc292⟩ := zn2 NB299_300; obtain ⟨hnb293, hnc293⟩ := zn2 NB299_304; obtain ⟨hcz294_0, hcz294_1, hcz294_2, hcz294_3, hfz294_0, hfz294_1, hfz294_2, hfz294_3⟩ := zc4 BK299.out; obtain ⟨hnb295, hnc295⟩ := zn2 NB298_300; obtain ⟨hnb296, hnc296⟩ := zn2 NB298_304; obtain ⟨hcz297_0, hfz297_0⟩ := zc1 BK298.out) | ((with_reducible refine gate_callee (f := 36) rfl ?_); refine goesL_ (some 123) rfl rfl Try.func36 (by kernel_rfl) rfl #[.agg #[.slice A0_0 l0_0.length c0_0], .string a1_1] rfl zr ?_; (with_reducible refine (spec_l03Without.calls kj59 _ _ l0_0 a1_1 t323 _ ?side1 ?side2 A282.out).mono ?_); (case side1 => exact Kd.C_below HR0_0.out (zb5 HB.out GE298.out GE299.out GE300.out GE304.out GE306.out)); (case side2 => exact HC0_0.out); rintro e w298 ⟨v324, rfl, ho0, hb⟩; refine ⟨_, rfl, ?_⟩; have HO325 := am (Kd.R_lower (Kd.R_newB ho0 (g := gb304) (o := .cells #[.string x305000_59, .string x305001_59, .int .i64 x305002_59] 66 (0, 0)) (zf1 BK304.out NB304_306.out)) (below_size (zb5 HB.out GE298.out GE299.out GE300.out GE304.out GE306.out))); replace BK298 := zh1 hb BK298 NB298_306; replace BK299 := zh1 hb BK299 NB299_306; replace BK300 := zh1 hb BK300 NB300_306; replace BK304 := zh1 hb BK304 NB304_306; replace BK306 := am (blk_below (g := gb306) (o := .cells #[.slice none 0 0] 31 (0, 0)) (by (with_reducible repeat (first | refine blk_drewN ?_ _ | refine blk_drew ?_ | refine blk_alloc ?_ _)); refine blk_put (cs := #[.slice none 0 0]) ?_ 0 _ rfl; (with_reducible repeat (first | refine blk_drewN ?_ _ | refine blk_drew ?_ | refine blk_alloc ?_ _)); exact BK306.out) hb); replace HB := zs5 hb HB GE298 GE299 GE300 GE304 GE306; clear hb ho0; obtain ⟨Ao299, co299, eo299⟩ := Kd.R_slice HO325.out; subst eo299; obtain ⟨hcz300_0, hfz300_0⟩ := zc1 BK306.out) | ((with_reducible refine gate_callee (f := 32) rfl ?_); refine goesL_ (some 125) rfl rfl Try.func32 (by kernel_rfl) rfl #[.agg #[.slice Ao299 t323.length co299]] rfl zr ?_; (with_reducible refine (spec_DiskOk.calls kj59 _ _ t323 true _ ?side1 ?side2 A283.out).mono ?_); (case side1 => refine (Kd.R_reads' (e := 66) (base := w.heap.size) (ok := fun k_ => (True ∧ k_ ≠ gb304)) (n := t323.length) (c := co299) ?_).2.2; exact (rx ((Kd.R_mono (Kd.R_far (p := ⟨gb306, 0, none⟩) (Kd.R_types HO325.out BK306.out (by decide)) (fun _ hk => hk.2) (.slice Ao299 t323.length co299)) (fun _ h_ => h_.1))))); (case side2 => exact (Kd.R_reads' HO325.out).2.1); rintro e w301 ⟨rfl, hb⟩; refine ⟨_, rfl, ?_⟩; replace HO325 := am (Kd.R_below (rx ((Kd.R_mono (Kd.R_far (p := ⟨gb306, 0, none⟩) (Kd.R_types HO325.out BK306.out (by decide)) (fun _ hk => hk.2) (.slice Ao299 t323.length co299)) (fun _ h_ => h_.1)))) hb); replace BK298 := zh1 hb BK298 NB298_306; replace BK299 := zh1 hb BK299 NB299_306; replace BK300 := zh1 hb BK300 NB300_306; replace BK304 := zh1 hb BK304 NB304_306; replace BK306 := am (blk_below (g := gb306) (o := .cells #[.slice Ao299 t323.length co299] 31 (0, 0)) (by (with_reducible repeat (first | refine blk_drewN ?_ _ | refine blk_drew ?_ | refine blk_alloc ?_ _)); refine blk_put (cs := #[.slice none 0 0]) ?_ 0 _ rfl; (with_reducible repeat (first | refine blk_drewN ?_ _ | refine blk_drew ?_ | refine blk_alloc ?_ _)); exact BK306.out) hb); replace HB := zs5 hb HB GE298 GE299 GE300 GE304 GE306; clear hb; obtain ⟨hcz302_0, hfz302_0⟩ := zc1 BK306.out; obtain ⟨hnb303, hnc303⟩ := zn2 NB300_304; obtain ⟨hcz304_0, hfz304_0⟩ := zc1 BK300.out))
            refine bodyPost_ret (results_ct rfl _ _ gb300 31 #[.slice Ao299 t323.length co299] (0, 0) _ rfl (by (with_reducible repeat (first | refine blk_drewN ?_ _ | refine blk_drew ?_ | refine blk_alloc ?_ _)); refine blk_put (cs := #[.slice none 0 0]) ?_ 0 _ rfl; (with_reducible repeat (first | refine blk_drewN ?_ _ | refine blk_drew ?_ | refine blk_alloc ?_ _)); exact BK300.out) Try.underlying31 rfl (by kernel_rfl)) rfl ?_
            exact ⟨_, by first | rfl | (simp [errW_none, errW_some] <;> rfl) | (simp [*, errW_none, errW_some] <;> rfl), rx (Kd.R_mono (Kd.R_far (p := ⟨gb300, 0, none⟩) (Kd.R_types HO325.out BK300.out (by decide)) (fun _ hk => hk.2) (.slice Ao299 t323.length co299)) (fun _ hk => trivial)), zb5 HB.out GE298.out GE299.out GE300.out GE304.out GE306.out⟩
           ·replace c284 := Bool.eq_false_iff.mpr c284
            subst c284
            have H1 : (some (([] : List (S66)), false)) = some (r1, r2) := by rw [if_neg (show ¬ (false = true) by decide)] at H; exact H
            clear H
            have H := H1
            clear H1
            simp only [Option.some.injEq, Prod.mk.injEq] at H
            obtain ⟨rfl, rfl⟩ := H
            go_wp2_with (first | ((with_reducible refine gate_dst (N := 8) rfl ?_); refine box_event rfl (N := 8) rfl (cs := #[.slice none 0 0]) (t := 31) zrun ?_; intro gb306 hg w305 hbox hb; have BK306 := am (hbox); have GW306 := zge hg (zb4 HB.out GE298.out GE299.out GE300.out GE304.out); have GE306 := zge hg (zb4 HB.out GE298.out GE299.out GE300.out GE304.out); obtain ⟨NB298_306, NB306_298⟩ := zne hg BK298; obtain ⟨NB299_306, NB306_299⟩ := zne hg BK299; obtain ⟨NB300_306, NB306_300⟩ := zne hg BK300; obtain ⟨NB304_306, NB306_304⟩ := zne hg BK304; replace BK298 := zk hb BK298; replace BK299 := zk hb BK299; replace BK300 := zk hb BK300; replace BK304 := zk hb BK304; replace HB := zs4 hb HB GE298 GE299 GE300 GE304; clear hb hbox hg; obtain ⟨hnb306, hnc306⟩ := zn2 NB306_298; obtain ⟨hnb307, hnc307⟩ := zn2 NB306_299; obtain ⟨hnb308, hnc308⟩ := zn2 NB306_300; obtain ⟨hnb309, hnc309⟩ := zn2 NB306_304; obtain ⟨hcz310_0, hfz310_0⟩ := zc1 BK306.out; obtain ⟨hnb311, hnc311⟩ := zn2 NB299_298; obtain ⟨hnb312, hnc312⟩ := zn2 NB299_300; obtain ⟨hnb313, hnc313⟩ := zn2 NB299_304; obtain ⟨hcz314_0, hcz314_1, hcz314_2, hcz314_3, hfz314_0, hfz314_1, hfz314_2, hfz314_3⟩ := zc4 BK299.out; obtain ⟨hnb315, hnc315⟩ := zn2 NB298_300; obtain ⟨hnb316, hnc316⟩ := zn2 NB298_304; obtain ⟨hcz317_0, hfz317_0⟩ := zc1 BK298.out) | ((with_reducible refine gate_callee (f := 36) rfl ?_); refine goesL_ (some 123) rfl rfl Try.func36 (by kernel_rfl) rfl #[.agg #[.slice A0_0 l0_0.length c0_0], .string a1_1] rfl zr ?_; (with_reducible refine (spec_l03Without.calls kj59 _ _ l0_0 a1_1 t323 _ ?side1 ?side2 A282.out).mono ?_); (case side1 => exact Kd.C_below HR0_0.out (zb5 HB.out GE298.out GE299.out GE300.out GE304.out GE306.out)); (case side2 => exact HC0_0.out); rintro e w318 ⟨v324, rfl, ho0, hb⟩; refine ⟨_, rfl, ?_⟩; have HO325 := am (Kd.R_lower (Kd.R_newB ho0 (g := gb304) (o := .cells #[.string x305000_59, .string x305001_59, .int .i64 x305002_59] 66 (0, 0)) (zf1 BK304.out NB304_306.out)) (below_size (zb5 HB.out GE298.out GE299.out GE300.out GE304.out GE306.out))); replace BK298 := zh1 hb BK298 NB298_306; replace BK299 := zh1 hb BK299 NB299_306; replace BK300 := zh1 hb BK300 NB300_306; replace BK304 := zh1 hb BK304 NB304_306; replace BK306 := am (blk_below (g := gb306) (o := .cells #[.slice none 0 0] 31 (0, 0)) (by (with_reducible repeat (first | refine blk_drewN ?_ _ | refine blk_drew ?_ | refine blk_alloc ?_ _)); refine blk_put (cs := #[.slice none 0 0]) ?_ 0 _ rfl; (with_reducible repeat (first | refine blk_drewN ?_ _ | refine blk_drew ?_ | refine blk_alloc ?_ _)); exact BK306.out) hb); replace HB := zs5 hb HB GE298 GE299 GE300 GE304 GE306; clear hb ho0; obtain ⟨Ao319, co319, eo319⟩ := Kd.R_slice HO325.out; subst eo319; obtain ⟨hcz320_0, hfz320_0⟩ := zc1 BK306.out) | ((with_reducible refine gate_callee (f := 32) rfl ?_); refine goesL_ (some 125) rfl rfl Try.func32 (by kernel_rfl) rfl #[.agg #[.slice Ao319 t323.length co319]] rfl zr ?_; (with_reducible refine (spec_DiskOk.calls kj59 _ _ t323 false _ ?side1 ?side2 A283.out).mono ?_); (case side1 => refine (Kd.R_reads' (e := 66) (base := w.heap.size) (ok := fun k_ => (True ∧ k_ ≠ gb304)) (n := t323.length) (c := co319) ?_).2.2; exact (rx ((Kd.R_mono (Kd.R_far (p := ⟨gb306, 0, none⟩) (Kd.R_types HO325.out BK306.out (by decide)) (fun _ hk => hk.2) (.slice Ao319 t323.length co319)) (fun _ h_ => h_.1))))); (case side2 => exact (Kd.R_reads' HO325.out).2.1); rintro e w321 ⟨rfl, hb⟩; refine ⟨_, rfl, ?_⟩; replace HO325 := am (Kd.R_below (rx ((Kd.R_mono (Kd.R_far (p := ⟨gb306, 0, none⟩) (Kd.R_types HO325.out BK306.out (by decide)) (fun _ hk => hk.2) (.slice Ao319 t323.length co319)) (fun _ h_ => h_.1)))) hb); replace BK298 := zh1 hb BK298 NB298_306; replace BK299 := zh1 hb BK299 NB299_306; replace BK300 := zh1 hb BK300 NB300_306; replace BK304 := zh1 hb BK304 NB304_306; replace BK306 := am (blk_below (g := gb306) (o := .cells #[.slice Ao319 t323.length co319] 31 (0, 0)) (by (with_reducible repeat (first | refine blk_drewN ?_ _ | refine blk_drew ?_ | refine blk_alloc ?_ _)); refine blk_put (cs := #[.slice none 0 0]) ?_ 0 _ rfl; (with_reducible repeat (first | refine blk_drewN ?_ _ | refine blk_drew ?_ | refine blk_alloc ?_ _)); exact BK306.out) hb); replace HB := zs5 hb HB GE298 GE299 GE300 GE304 GE306; clear hb; obtain ⟨hnb322, hnc322⟩ := zn2 NB300_304; obtain ⟨hcz323_0, hfz323_0⟩ := zc1 BK300.out))
            refine bodyPost_ret (results_ct rfl _ _ gb300 31 #[.slice none 0 0] (0, 0) _ rfl (by (with_reducible repeat (first | refine blk_drewN ?_ _ | refine blk_drew ?_ | refine blk_alloc ?_ _)); refine blk_put (cs := #[.slice none 0 0]) ?_ 0 _ rfl; (with_reducible repeat (first | refine blk_drewN ?_ _ | refine blk_drew ?_ | refine blk_alloc ?_ _)); exact BK300.out) Try.underlying31 rfl (by kernel_rfl)) rfl ?_
            exact ⟨_, by first | rfl | (simp [errW_none, errW_some] <;> rfl) | (simp [*, errW_none, errW_some] <;> rfl), by first | exact Kd.R_nil _ _ _ _ _ | exact Kd.N_nil _ _ _ _ _ | exact Kd.V_nil _ _ _ _ _ | exact Kd.Q_nil _ _ _ _ _ | exact Kd.S_nil _ _ _ _ _, zb5 HB.out GE298.out GE299.out GE300.out GE304.out GE306.out⟩
          ·rw [if_neg c281] at H
           have c281b0 : (a1_0 == 4) = false := beq_eq_false_iff_ne.mpr c281
           have c281b1 : (a1_0 != 4) = true := bne_iff_ne.mpr c281
           simp only [Option.some.injEq, Prod.mk.injEq] at H
           obtain ⟨rfl, rfl⟩ := H
           go_wp2_with (first | ((with_reducible refine gate_dst (N := 8) rfl ?_); refine box_event rfl (N := 8) rfl (cs := #[.slice none 0 0]) (t := 31) zrun ?_; intro gb306 hg w324 hbox hb; have BK306 := am (hbox); have GW306 := zge hg (zb4 HB.out GE298.out GE299.out GE300.out GE304.out); have GE306 := zge hg (zb4 HB.out GE298.out GE299.out GE300.out GE304.out); obtain ⟨NB298_306, NB306_298⟩ := zne hg BK298; obtain ⟨NB299_306, NB306_299⟩ := zne hg BK299; obtain ⟨NB300_306, NB306_300⟩ := zne hg BK300; obtain ⟨NB304_306, NB306_304⟩ := zne hg BK304; replace BK298 := zk hb BK298; replace BK299 := zk hb BK299; replace BK300 := zk hb BK300; replace BK304 := zk hb BK304; replace HB := zs4 hb HB GE298 GE299 GE300 GE304; clear hb hbox hg; obtain ⟨hnb325, hnc325⟩ := zn2 NB306_298; obtain ⟨hnb326, hnc326⟩ := zn2 NB306_299; obtain ⟨hnb327, hnc327⟩ := zn2 NB306_300; obtain ⟨hnb328, hnc328⟩ := zn2 NB306_304; obtain ⟨hcz329_0, hfz329_0⟩ := zc1 BK306.out; obtain ⟨hnb330, hnc330⟩ := zn2 NB299_298; obtain ⟨hnb331, hnc331⟩ := zn2 NB299_300; obtain ⟨hnb332, hnc332⟩ := zn2 NB299_304; obtain ⟨hcz333_0, hcz333_1, hcz333_2, hcz333_3, hfz333_0, hfz333_1, hfz333_2, hfz333_3⟩ := zc4 BK299.out; obtain ⟨hnb334, hnc334⟩ := zn2 NB300_298; obtain ⟨hnb335, hnc335⟩ := zn2 NB300_304; obtain ⟨hcz336_0, hfz336_0⟩ := zc1 BK300.out))
           refine bodyPost_ret (results_ct rfl _ _ gb300 31 #[.slice none 0 0] (0, 0) _ rfl (by (with_reducible repeat (first | refine blk_drewN ?_ _ | refine blk_drew ?_ | refine blk_alloc ?_ _)); refine blk_put (cs := #[.slice none 0 0]) ?_ 0 _ rfl; (with_reducible repeat (first | refine blk_drewN ?_ _ | refine blk_drew ?_ | refine blk_alloc ?_ _)); refine blk_far ?_ NB300_306.out _; (with_reducible repeat (first | refine blk_drewN ?_ _ | refine blk_drew ?_ | refine blk_alloc ?_ _)); exact BK300.out) Try.underlying31 rfl (by kernel_rfl)) rfl ?_
           exact ⟨_, by first | rfl | (simp [errW_none, errW_some] <;> rfl) | (simp [*, errW_none, errW_some] <;> rfl), by first | exact Kd.R_nil _ _ _ _ _ | exact Kd.N_nil _ _ _ _ _ | exact Kd.V_nil _ _ _ _ _ | exact Kd.Q_nil _ _ _ _ _ | exact Kd.S_nil _ _ _ _ _, zb5 HB.out GE298.out GE299.out GE300.out GE304.out GE306.out⟩

end Go.Proofs.Ytklbkkoojkmjbaa.QFnExactCutActs
