/- Written by the kit's print.py, called by our own print2.sh with one import more; not by print.sh. -/
import Derived.Test.YtklbkkoojkmjbaaQFnActsx0
import Derived.Test.YtklbkkoojkmjbaaQFnActsx5
import Derived.Test.YtklbkkoojkmjbaaQFnActsx6
import Derived.Test.YtklbkkoojkmjbaaQFnActsx7
namespace Go.Proofs.Ytklbkkoojkmjbaa.QFnActs
open Go.RowKit Go.Proofs.YtklbkkoojkmjbaaW.PrintWords Go.Proofs.YtklbkkoojkmjbaaW.PrintLast Go.Proofs.YtklbkkoojkmjbaaW.PrintMore
attribute [local go_sem] max2_int min2_int max_two min_two max_three min_three max_four min_four   -- for this text's walks alone
open Go.Proofs.Ytklbkkoojkmjbaa.Short
set_option linter.unusedVariables false
set_option linter.unusedSimpArgs false

/-! ### spec_DoAct: function 9 -/
mutual
def spec_DoAct.j0 : Nat → Bool → List (S66) → Int → ByteArray → ByteArray → ByteArray → Option ((List (S66)) × Bool)
 | 0, _, _, _, _, _, _ => none
 | k + 1, x37, x183000, x184000, x184001, x184002, x184003 => if x37 = true then (some (([] : List (S66)), false)) else ((spec_l03At.f k x183000 x184001).bind fun t187 => (if t187 ≥ 0 then (if 0 ≤ t187 then (if t187 < (x183000.length : Int) then (spec_DoAct.j1 k t187 x183000 x184000 x184001 x184002 x184003 ((rd_T66 x183000 t187).f0) ((rd_T66 x183000 t187).f1) ((rd_T66 x183000 t187).f2)) else (none)) else (none)) else (spec_DoAct.j1 k t187 x183000 x184000 x184001 x184002 x184003 x184001 (⟨#[]⟩ : ByteArray) 0)))
def spec_DoAct.j1 : Nat → Int → List (S66) → Int → ByteArray → ByteArray → ByteArray → ByteArray → ByteArray → Int → Option ((List (S66)) × Bool)
 | 0, _, _, _, _, _, _, _, _, _ => none
 | k + 1, x6, x183000, x184000, x184001, x184002, x184003, x189000, x189001, x189002 => if x184000 = 1 then (if x189001.size + x184002.size ≤ 9223372036854775807 then ((spec_l03Put.f k x183000 x189000 (x189001 ++ x184002) x189002).bind fun t191 => ((spec_DiskOk.f k t191).bind fun t194 => (if t194 = true then (some (t191, true)) else (some (([] : List (S66)), false))))) else (none)) else (if x6 < 0 then (some (([] : List (S66)), false)) else (if x184000 = 2 then ((spec_l03Put.f k x183000 x189000 x189001 (x189001.size : Int)).bind fun t195 => ((spec_DiskOk.f k t195).bind fun t198 => (if t198 = true then (some (t195, true)) else (some (([] : List (S66)), false))))) else (if x184000 = 3 then (if x189002 < (x189001.size : Int) then (spec_DoAct.j2 k true x183000 x184000 x184001 x184002 x184003 x189000 x189001 x189002) else (if x184003.toList = x184001.toList then (spec_DoAct.j2 k true x183000 x184000 x184001 x184002 x184003 x189000 x189001 x189002) else ((spec_l03Name.f x184003).bind fun t199 => (spec_DoAct.j2 k (!t199) x183000 x184000 x184001 x184002 x184003 x189000 x189001 x189002)))) else (if x184000 = 4 then ((spec_l03Without.f k x183000 x184001).bind fun t207 => ((spec_DiskOk.f k t207).bind fun t210 => (if t210 = true then (some (t207, true)) else (some (([] : List (S66)), false))))) else (some (([] : List (S66)), false))))))
def spec_DoAct.j2 : Nat → Bool → List (S66) → Int → ByteArray → ByteArray → ByteArray → ByteArray → ByteArray → Int → Option ((List (S66)) × Bool)
 | 0, _, _, _, _, _, _, _, _, _ => none
 | k + 1, x105, x183000, x184000, x184001, x184002, x184003, x189000, x189001, x189002 => if x105 = true then (some (([] : List (S66)), false)) else ((spec_l03Without.f k x183000 x184001).bind fun t200 => ((spec_l03Put.f k t200 x184003 x189001 x189002).bind fun t203 => ((spec_DiskOk.f k t203).bind fun t206 => (if t206 = true then (some (t203, true)) else (some (([] : List (S66)), false))))))
end
def spec_DoAct.f (k : Nat) (l0_0 : List (S66)) (a1_0 : Int) (a1_1 : ByteArray) (a1_2 : ByteArray) (a1_3 : ByteArray) : Option ((List (S66)) × Bool) := (spec_DiskOk.f k l0_0).bind fun t185 => (if t185 = true then ((spec_l03Name.f a1_1).bind fun t186 => (if t186 = true then (if a1_0 = 3 then (if a1_0 = 1 then (spec_DoAct.j0 k false l0_0 a1_0 a1_1 a1_2 a1_3) else (spec_DoAct.j0 k (a1_2.toList != ([] : List UInt8)) l0_0 a1_0 a1_1 a1_2 a1_3)) else (if a1_3.toList = ([] : List UInt8) then (if a1_0 = 1 then (spec_DoAct.j0 k false l0_0 a1_0 a1_1 a1_2 a1_3) else (spec_DoAct.j0 k (a1_2.toList != ([] : List UInt8)) l0_0 a1_0 a1_1 a1_2 a1_3)) else (spec_DoAct.j0 k true l0_0 a1_0 a1_1 a1_2 a1_3))) else (spec_DoAct.j0 k true l0_0 a1_0 a1_1 a1_2 a1_3))) else (spec_DoAct.j0 k true l0_0 a1_0 a1_1 a1_2 a1_3))
theorem spec_DoAct.mono_l : ∀ k, (∀ y0 y1 y2 y3 y4 y5, LeO (spec_DoAct.j0 k y0 y1 y2 y3 y4 y5) (spec_DoAct.j0 (k + 1) y0 y1 y2 y3 y4 y5)) ∧ (∀ y0 y1 y2 y3 y4 y5 y6 y7 y8, LeO (spec_DoAct.j1 k y0 y1 y2 y3 y4 y5 y6 y7 y8) (spec_DoAct.j1 (k + 1) y0 y1 y2 y3 y4 y5 y6 y7 y8)) ∧ (∀ y0 y1 y2 y3 y4 y5 y6 y7 y8, LeO (spec_DoAct.j2 k y0 y1 y2 y3 y4 y5 y6 y7 y8) (spec_DoAct.j2 (k + 1) y0 y1 y2 y3 y4 y5 y6 y7 y8))
 | 0 => ⟨fun _ _ _ _ _ _ r h => by simp [spec_DoAct.j0] at h, fun _ _ _ _ _ _ _ _ _ r h => by simp [spec_DoAct.j1] at h, fun _ _ _ _ _ _ _ _ _ r h => by simp [spec_DoAct.j2] at h⟩
 | k + 1 => by
  obtain ⟨ih0, ih1, ih2⟩ := spec_DoAct.mono_l k
  refine ⟨?_, ?_, ?_⟩
  ·intro y0 y1 y2 y3 y4 y5
   unfold spec_DoAct.j0
   repeat' first
   | (with_reducible exact ih0 _ _ _ _ _ _)
   | (with_reducible exact ih1 _ _ _ _ _ _ _ _ _)
   | (with_reducible exact ih2 _ _ _ _ _ _ _ _ _)
   | (with_reducible exact spec_DiskOk.mono _ _)
   | (with_reducible exact spec_l03At.mono _ _ _)
   | (with_reducible exact spec_l03Put.mono _ _ _ _ _)
   | (with_reducible exact spec_l03Without.mono _ _ _)
   | (with_reducible exact LeO.refl _)
   | (with_reducible exact LeO.none _)
   | (with_reducible refine LeO.ite ?_ ?_)
   | (with_reducible refine LeO.bind ?_ (fun _ => ?_))
   | exact ih0 _ _ _ _ _ _
   | exact ih1 _ _ _ _ _ _ _ _ _
   | exact ih2 _ _ _ _ _ _ _ _ _
   | exact spec_DiskOk.mono _ _
   | exact spec_l03At.mono _ _ _
   | exact spec_l03Put.mono _ _ _ _ _
   | exact spec_l03Without.mono _ _ _
   | exact LeO.none _
   | refine LeO.ite ?_ ?_
   | refine LeO.bind ?_ (fun _ => ?_)
  ·intro y0 y1 y2 y3 y4 y5 y6 y7 y8
   unfold spec_DoAct.j1
   repeat' first
   | (with_reducible exact ih0 _ _ _ _ _ _)
   | (with_reducible exact ih1 _ _ _ _ _ _ _ _ _)
   | (with_reducible exact ih2 _ _ _ _ _ _ _ _ _)
   | (with_reducible exact spec_DiskOk.mono _ _)
   | (with_reducible exact spec_l03At.mono _ _ _)
   | (with_reducible exact spec_l03Put.mono _ _ _ _ _)
   | (with_reducible exact spec_l03Without.mono _ _ _)
   | (with_reducible exact LeO.refl _)
   | (with_reducible exact LeO.none _)
   | (with_reducible refine LeO.ite ?_ ?_)
   | (with_reducible refine LeO.bind ?_ (fun _ => ?_))
   | exact ih0 _ _ _ _ _ _
   | exact ih1 _ _ _ _ _ _ _ _ _
   | exact ih2 _ _ _ _ _ _ _ _ _
   | exact spec_DiskOk.mono _ _
   | exact spec_l03At.mono _ _ _
   | exact spec_l03Put.mono _ _ _ _ _
   | exact spec_l03Without.mono _ _ _
   | exact LeO.none _
   | refine LeO.ite ?_ ?_
   | refine LeO.bind ?_ (fun _ => ?_)
  ·intro y0 y1 y2 y3 y4 y5 y6 y7 y8
   unfold spec_DoAct.j2
   repeat' first
   | (with_reducible exact ih0 _ _ _ _ _ _)
   | (with_reducible exact ih1 _ _ _ _ _ _ _ _ _)
   | (with_reducible exact ih2 _ _ _ _ _ _ _ _ _)
   | (with_reducible exact spec_DiskOk.mono _ _)
   | (with_reducible exact spec_l03At.mono _ _ _)
   | (with_reducible exact spec_l03Put.mono _ _ _ _ _)
   | (with_reducible exact spec_l03Without.mono _ _ _)
   | (with_reducible exact LeO.refl _)
   | (with_reducible exact LeO.none _)
   | (with_reducible refine LeO.ite ?_ ?_)
   | (with_reducible refine LeO.bind ?_ (fun _ => ?_))
   | exact ih0 _ _ _ _ _ _
   | exact ih1 _ _ _ _ _ _ _ _ _
   | exact ih2 _ _ _ _ _ _ _ _ _
   | exact spec_DiskOk.mono _ _
   | exact spec_l03At.mono _ _ _
   | exact spec_l03Put.mono _ _ _ _ _
   | exact spec_l03Without.mono _ _ _
   | exact LeO.none _
   | refine LeO.ite ?_ ?_
   | refine LeO.bind ?_ (fun _ => ?_)
theorem spec_DoAct.mono : ∀ a0 a1 a2 a3 a4 k, LeO (spec_DoAct.f k a0 a1 a2 a3 a4) (spec_DoAct.f (k + 1) a0 a1 a2 a3 a4) := by
 intro a0 a1 a2 a3 a4 k
 obtain ⟨ih0, ih1, ih2⟩ := spec_DoAct.mono_l k
 unfold spec_DoAct.f
 repeat' first
   | (with_reducible exact ih0 _ _ _ _ _ _)
   | (with_reducible exact ih1 _ _ _ _ _ _ _ _ _)
   | (with_reducible exact ih2 _ _ _ _ _ _ _ _ _)
   | (with_reducible exact spec_DiskOk.mono _ _)
   | (with_reducible exact spec_l03At.mono _ _ _)
   | (with_reducible exact spec_l03Put.mono _ _ _ _ _)
   | (with_reducible exact spec_l03Without.mono _ _ _)
   | (with_reducible exact LeO.refl _)
   | (with_reducible exact LeO.none _)
   | (with_reducible refine LeO.ite ?_ ?_)
   | (with_reducible refine LeO.bind ?_ (fun _ => ?_))
   | exact ih0 _ _ _ _ _ _
   | exact ih1 _ _ _ _ _ _ _ _ _
   | exact ih2 _ _ _ _ _ _ _ _ _
   | exact spec_DiskOk.mono _ _
   | exact spec_l03At.mono _ _ _
   | exact spec_l03Put.mono _ _ _ _ _
   | exact spec_l03Without.mono _ _ _
   | exact LeO.none _
   | refine LeO.ite ?_ ?_
   | refine LeO.bind ?_ (fun _ => ?_)
set_option maxHeartbeats 8000000 in
set_option maxRecDepth 100000 in
theorem spec_DoAct.calls (k : Nat) (A0_0 : Option Addr) (c0_0 : Nat) (l0_0 : List (S66)) (a1_0 : Int) (a1_1 : ByteArray) (a1_2 : ByteArray) (a1_3 : ByteArray) (r1 : List (S66)) (r2 : Bool) (w : World) (hr0_0 : Kd.C k66 w A0_0 l0_0.length l0_0) (hc0_0 : l0_0.length ≤ c0_0) (h : spec_DoAct.f k l0_0 a1_0 a1_1 a1_2 a1_3 = some (r1, r2)) :
  Calls Try.prog 9 #[.agg #[.slice A0_0 l0_0.length c0_0], .agg #[.int .i64 a1_0, .string a1_1, .string a1_2, .string a1_3]] w fun e w' => ∃ v0_ : Value, e = .returned (.tuple #[.agg #[v0_], .bool r2]) ∧ Kd.R k66 66 w' w.heap.size (fun _ => True) v0_ r1 ∧ Below w.heap.size w w' := by
 have hu31 := Try.underlying31
 have hu35 := Try.underlying35
 have hu66 := Try.underlying66
 have HR0_0 := Aside0.mk hr0_0
 have HC0_0 := Aside0.mk hc0_0
 clear hr0_0 hc0_0
 have HB := Aside0.mk (Below.refl w.heap.size w)
 have H : ((spec_DiskOk.f k l0_0).bind fun t185 => (if t185 = true then ((spec_l03Name.f a1_1).bind fun t186 => (if t186 = true then (if a1_0 = 3 then (if a1_0 = 1 then (spec_DoAct.j0 k false l0_0 a1_0 a1_1 a1_2 a1_3) else (spec_DoAct.j0 k (a1_2.toList != ([] : List UInt8)) l0_0 a1_0 a1_1 a1_2 a1_3)) else (if a1_3.toList = ([] : List UInt8) then (if a1_0 = 1 then (spec_DoAct.j0 k false l0_0 a1_0 a1_1 a1_2 a1_3) else (spec_DoAct.j0 k (a1_2.toList != ([] : List UInt8)) l0_0 a1_0 a1_1 a1_2 a1_3)) else (spec_DoAct.j0 k true l0_0 a1_0 a1_1 a1_2 a1_3))) else (spec_DoAct.j0 k true l0_0 a1_0 a1_1 a1_2 a1_3))) else (spec_DoAct.j0 k true l0_0 a1_0 a1_1 a1_2 a1_3))) = some (r1, r2) := h
 clear h
 have HC3 := Aside0.mk H
 clear H
 go_enter Try.func9, Try.ntmps9
 go_upto_region 1 with (first | ((with_reducible refine gate_dst (N := 2) rfl ?_); refine box_event rfl (N := 2) rfl (cs := #[.slice A0_0 l0_0.length c0_0]) (t := 31) zrun ?_; intro gb182 hg w4 hbox hb; have BK182 := am (hbox); have GE182 := zge hg (zb0 HB.out); replace HB := zs0 hb HB; clear hb hbox hg) | ((with_reducible refine gate_dst (N := 3) rfl ?_); refine box_event rfl (N := 3) rfl (cs := #[.int .i64 a1_0, .string a1_1, .string a1_2, .string a1_3]) (t := 35) zrun ?_; intro gb183 hg w5 hbox hb; have BK183 := am (hbox); have GE183 := zge hg (zb1 HB.out GE182.out); obtain ⟨NB182_183, NB183_182⟩ := zne hg BK182; replace BK182 := zk hb BK182; replace HB := zs1 hb HB GE182; clear hb hbox hg) | ((with_reducible refine gate_dst (N := 4) rfl ?_); refine box_event rfl (N := 4) rfl (cs := #[.slice none 0 0]) (t := 31) zrun ?_; intro gb184 hg w6 hbox hb; have BK184 := am (hbox); have GE184 := zge hg (zb2 HB.out GE182.out GE183.out); obtain ⟨NB182_184, NB184_182⟩ := zne hg BK182; obtain ⟨NB183_184, NB184_183⟩ := zne hg BK183; replace BK182 := zk hb BK182; replace BK183 := zk hb BK183; replace HB := zs2 hb HB GE182 GE183; clear hb hbox hg))
 (try simp only [Act.put, List.setIfInBounds_toArray, List.set_cons_zero, List.set_cons_succ])
 go_cut [37] (fun v37 wc => ∃ (kq : Nat) (x37_2 : Bool), v37 = .bool x37_2 ∧ Aside0 (spec_DoAct.j0 kq x37_2 l0_0 a1_0 a1_1 a1_2 a1_3 = some (r1, r2)) ∧ Aside0 (kq ≤ k) ∧ Aside0 (wc.heap[gb182]? = some (.cells #[(.slice A0_0 l0_0.length c0_0)] 31 (0, 0))) ∧ Aside0 (wc.heap[gb183]? = some (.cells #[.int .i64 a1_0, .string a1_1, .string a1_2, .string a1_3] 35 (0, 0))) ∧ Aside0 (wc.heap[gb184]? = some (.cells #[(.slice none 0 0)] 31 (0, 0))) ∧ Aside0 (Below w.heap.size w wc))
 case first =>
  have H := HC3.out
  clear HC3
  replace H := Option.bind_eq_some_iff.mp H
  obtain ⟨t185, A70, H⟩ := H
  try dsimp only at H
  have A7 := Aside0.mk A70
  clear A70
  by_cases c8 : t185 = true
  ·subst c8
   have H1 : ((spec_l03Name.f a1_1).bind fun t186 => (if t186 = true then (if a1_0 = 3 then (if a1_0 = 1 then (spec_DoAct.j0 k false l0_0 a1_0 a1_1 a1_2 a1_3) else (spec_DoAct.j0 k (a1_2.toList != ([] : List UInt8)) l0_0 a1_0 a1_1 a1_2 a1_3)) else (if a1_3.toList = ([] : List UInt8) then (if a1_0 = 1 then (spec_DoAct.j0 k false l0_0 a1_0 a1_1 a1_2 a1_3) else (spec_DoAct.j0 k (a1_2.toList != ([] : List UInt8)) l0_0 a1_0 a1_1 a1_2 a1_3)) else (spec_DoAct.j0 k true l0_0 a1_0 a1_1 a1_2 a1_3))) else (spec_DoAct.j0 k true l0_0 a1_0 a1_1 a1_2 a1_3))) = some (r1, r2) := by rw [if_pos rfl] at H; exact H
   clear H
   have H := H1
   clear H1
   replace H := Option.bind_eq_some_iff.mp H
   obtain ⟨t186, A90, H⟩ := H
   try dsimp only at H
   have A9 := Aside0.mk A90
   clear A90
   by_cases c10 : t186 = true
   ·subst c10
    have H1 : (if a1_0 = 3 then (if a1_0 = 1 then (spec_DoAct.j0 k false l0_0 a1_0 a1_1 a1_2 a1_3) else (spec_DoAct.j0 k (a1_2.toList != ([] : List UInt8)) l0_0 a1_0 a1_1 a1_2 a1_3)) else (if a1_3.toList = ([] : List UInt8) then (if a1_0 = 1 then (spec_DoAct.j0 k false l0_0 a1_0 a1_1 a1_2 a1_3) else (spec_DoAct.j0 k (a1_2.toList != ([] : List UInt8)) l0_0 a1_0 a1_1 a1_2 a1_3)) else (spec_DoAct.j0 k true l0_0 a1_0 a1_1 a1_2 a1_3))) = some (r1, r2) := by rw [if_pos rfl] at H; exact H
    clear H
    have H := H1
    clear H1
    by_cases c11 : a1_0 = 3
    ·rw [if_pos c11] at H
     have c11b0 : (a1_0 == 3) = true := beq_iff_eq.mpr c11
     have c11b1 : (a1_0 != 3) = false := bne_eq_false_iff_eq.mpr c11
     clear c11
     (first | rw [c11b0] | (simp only [i64_w, i32_w]; rw [c11b0]) | skip)
     by_cases c12 : a1_0 = 1
     ·rw [if_pos c12] at H
      have c12b0 : (a1_0 == 1) = true := beq_iff_eq.mpr c12
      have c12b1 : (a1_0 != 1) = false := bne_eq_false_iff_eq.mpr c12
      clear c12
      have H' := Aside0.mk H
      clear H
      obtain ⟨hnb13, hnc13⟩ := zn2 NB182_183
      obtain ⟨hnb14, hnc14⟩ := zn2 NB182_184
      obtain ⟨hcz15_0, hfz15_0⟩ := zc1 BK182.out
      go_wp2_with (first | ((with_reducible refine gate_callee (f := 32) rfl ?_); refine goesL_ (some 10) rfl rfl Try.func32 (by kernel_rfl) rfl #[.agg #[.slice A0_0 l0_0.length c0_0]] rfl zr ?_; (with_reducible refine (spec_DiskOk.calls k _ _ l0_0 true _ ?side1 ?side2 A7.out).mono ?_); (case side1 => repeat (first | exact (Kd.C_below HR0_0.out HB.out) | (with_reducible refine Kd.C_alloc ?_ _) | (with_reducible refine Kd.C_drewN ?_ _) | (with_reducible refine Kd.C_drew ?_))); (case side2 => exact HC0_0.out); rintro e w16 ⟨rfl, hb⟩; refine ⟨_, rfl, ?_⟩; replace BK182 := zk hb BK182; replace BK183 := zk hb BK183; replace BK184 := zk hb BK184; replace HB := zs3 hb HB GE182 GE183 GE184; clear hb; obtain ⟨hnb17, hnc17⟩ := zn2 NB183_184; obtain ⟨hcz18_0, hcz18_1, hcz18_2, hcz18_3, hfz18_0, hfz18_1, hfz18_2, hfz18_3⟩ := zc4 BK183.out) | (go_at_call 33; (with_reducible refine (spec_l03Name.calls a1_1 true _ A9.out).mono ?_); rintro e w' ⟨rfl, ⟨nd, rfl⟩⟩))
      go_meet
      case rel => exact ⟨_, (false), (by first | rfl | (simp; done) | (simp [*]; done)), H', ⟨by first | omega | exact Nat.le_refl _⟩, ⟨kx BK182.out⟩, ⟨kx BK183.out⟩, ⟨kx BK184.out⟩, ⟨zb3 HB.out GE182.out GE183.out GE184.out⟩⟩
     ·rw [if_neg c12] at H
      have c12b0 : (a1_0 == 1) = false := beq_eq_false_iff_ne.mpr c12
      have c12b1 : (a1_0 != 1) = true := bne_iff_ne.mpr c12
      have H' := Aside0.mk H
      clear H
      obtain ⟨hnb19, hnc19⟩ := zn2 NB182_183
      obtain ⟨hnb20, hnc20⟩ := zn2 NB182_184
      obtain ⟨hcz21_0, hfz21_0⟩ := zc1 BK182.out
      go_wp2_with (first | ((with_reducible refine gate_callee (f := 32) rfl ?_); refine goesL_ (some 10) rfl rfl Try.func32 (by kernel_rfl) rfl #[.agg #[.slice A0_0 l0_0.length c0_0]] rfl zr ?_; (with_reducible refine (spec_DiskOk.calls k _ _ l0_0 true _ ?side1 ?side2 A7.out).mono ?_); (case side1 => repeat (first | exact (Kd.C_below HR0_0.out HB.out) | (with_reducible refine Kd.C_alloc ?_ _) | (with_reducible refine Kd.C_drewN ?_ _) | (with_reducible refine Kd.C_drew ?_))); (case side2 => exact HC0_0.out); rintro e w22 ⟨rfl, hb⟩; refine ⟨_, rfl, ?_⟩; replace BK182 := zk hb BK182; replace BK183 := zk hb BK183; replace BK184 := zk hb BK184; replace HB := zs3 hb HB GE182 GE183 GE184; clear hb; obtain ⟨hnb23, hnc23⟩ := zn2 NB183_184; obtain ⟨hcz24_0, hcz24_1, hcz24_2, hcz24_3, hfz24_0, hfz24_1, hfz24_2, hfz24_3⟩ := zc4 BK183.out) | (go_at_call 33; (with_reducible refine (spec_l03Name.calls a1_1 true _ A9.out).mono ?_); rintro e w' ⟨rfl, ⟨nd, rfl⟩⟩))
      go_meet
      case rel => exact ⟨_, ((a1_2.toList != ([] : List UInt8))), (by first | rfl | (simp; done) | (simp [*]; done) | (simp; cases a1_2.toList <;> rfl)), H', ⟨by first | omega | exact Nat.le_refl _⟩, ⟨kx BK182.out⟩, ⟨kx BK183.out⟩, ⟨kx BK184.out⟩, ⟨zb3 HB.out GE182.out GE183.out GE184.out⟩⟩
    ·rw [if_neg c11] at H
     have c11b0 : (a1_0 == 3) = false := beq_eq_false_iff_ne.mpr c11
     have c11b1 : (a1_0 != 3) = true := bne_iff_ne.mpr c11
     (first | rw [c11b0] | (simp only [i64_w, i32_w]; rw [c11b0]) | skip)
     by_cases c25 : a1_3.toList = ([] : List UInt8)
     ·rw [if_pos c25] at H
      have c25b0 : (a1_3.toList == ([] : List UInt8)) = true := beq_iff_eq.mpr c25
      have c25b1 : (a1_3.toList != ([] : List UInt8)) = false := bne_eq_false_iff_eq.mpr c25
      clear c25
      by_cases c26 : a1_0 = 1
      ·rw [if_pos c26] at H
       have c26b0 : (a1_0 == 1) = true := beq_iff_eq.mpr c26
       have c26b1 : (a1_0 != 1) = false := bne_eq_false_iff_eq.mpr c26
       clear c26
       have H' := Aside0.mk H
       clear H
       obtain ⟨hnb27, hnc27⟩ := zn2 NB182_183
       obtain ⟨hnb28, hnc28⟩ := zn2 NB182_184
       obtain ⟨hcz29_0, hfz29_0⟩ := zc1 BK182.out
       go_wp2_with (first | ((with_reducible refine gate_callee (f := 32) rfl ?_); refine goesL_ (some 10) rfl rfl Try.func32 (by kernel_rfl) rfl #[.agg #[.slice A0_0 l0_0.length c0_0]] rfl zr ?_; (with_reducible refine (spec_DiskOk.calls k _ _ l0_0 true _ ?side1 ?side2 A7.out).mono ?_); (case side1 => repeat (first | exact (Kd.C_below HR0_0.out HB.out) | (with_reducible refine Kd.C_alloc ?_ _) | (with_reducible refine Kd.C_drewN ?_ _) | (with_reducible refine Kd.C_drew ?_))); (case side2 => exact HC0_0.out); rintro e w30 ⟨rfl, hb⟩; refine ⟨_, rfl, ?_⟩; replace BK182 := zk hb BK182; replace BK183 := zk hb BK183; replace BK184 := zk hb BK184; replace HB := zs3 hb HB GE182 GE183 GE184; clear hb; obtain ⟨hnb31, hnc31⟩ := zn2 NB183_184; obtain ⟨hcz32_0, hcz32_1, hcz32_2, hcz32_3, hfz32_0, hfz32_1, hfz32_2, hfz32_3⟩ := zc4 BK183.out) | (go_at_call 33; (with_reducible refine (spec_l03Name.calls a1_1 true _ A9.out).mono ?_); rintro e w' ⟨rfl, ⟨nd, rfl⟩⟩))
       go_meet
       case rel => exact ⟨_, (false), (by first | rfl | (simp; done) | (simp [*]; done)), H', ⟨by first | omega | exact Nat.le_refl _⟩, ⟨kx BK182.out⟩, ⟨kx BK183.out⟩, ⟨kx BK184.out⟩, ⟨zb3 HB.out GE182.out GE183.out GE184.out⟩⟩
      ·rw [if_neg c26] at H
       have c26b0 : (a1_0 == 1) = false := beq_eq_false_iff_ne.mpr c26
       have c26b1 : (a1_0 != 1) = true := bne_iff_ne.mpr c26
       have H' := Aside0.mk H
       clear H
       obtain ⟨hnb33, hnc33⟩ := zn2 NB182_183
       obtain ⟨hnb34, hnc34⟩ := zn2 NB182_184
       obtain ⟨hcz35_0, hfz35_0⟩ := zc1 BK182.out
       go_wp2_with (first | ((with_reducible refine gate_callee (f := 32) rfl ?_); refine goesL_ (some 10) rfl rfl Try.func32 (by kernel_rfl) rfl #[.agg #[.slice A0_0 l0_0.length c0_0]] rfl zr ?_; (with_reducible refine (spec_DiskOk.calls k _ _ l0_0 true _ ?side1 ?side2 A7.out).mono ?_); (case side1 => repeat (first | exact (Kd.C_below HR0_0.out HB.out) | (with_reducible refine Kd.C_alloc ?_ _) | (with_reducible refine Kd.C_drewN ?_ _) | (with_reducible refine Kd.C_drew ?_))); (case side2 => exact HC0_0.out); rintro e w36 ⟨rfl, hb⟩; refine ⟨_, rfl, ?_⟩; replace BK182 := zk hb BK182; replace BK183 := zk hb BK183; replace BK184 := zk hb BK184; replace HB := zs3 hb HB GE182 GE183 GE184; clear hb; obtain ⟨hnb37, hnc37⟩ := zn2 NB183_184; obtain ⟨hcz38_0, hcz38_1, hcz38_2, hcz38_3, hfz38_0, hfz38_1, hfz38_2, hfz38_3⟩ := zc4 BK183.out) | (go_at_call 33; (with_reducible refine (spec_l03Name.calls a1_1 true _ A9.out).mono ?_); rintro e w' ⟨rfl, ⟨nd, rfl⟩⟩))
       go_meet
       case rel => exact ⟨_, ((a1_2.toList != ([] : List UInt8))), (by first | rfl | (simp; done) | (simp [*]; done) | (simp; cases a1_2.toList <;> rfl)), H', ⟨by first | omega | exact Nat.le_refl _⟩, ⟨kx BK182.out⟩, ⟨kx BK183.out⟩, ⟨kx BK184.out⟩, ⟨zb3 HB.out GE182.out GE183.out GE184.out⟩⟩
     ·rw [if_neg c25] at H
      have c25b0 : (a1_3.toList == ([] : List UInt8)) = false := beq_eq_false_iff_ne.mpr c25
      have c25b1 : (a1_3.toList != ([] : List UInt8)) = true := bne_iff_ne.mpr c25
      have H' := Aside0.mk H
      clear H
      obtain ⟨hnb39, hnc39⟩ := zn2 NB182_183
      obtain ⟨hnb40, hnc40⟩ := zn2 NB182_184
      obtain ⟨hcz41_0, hfz41_0⟩ := zc1 BK182.out
      go_wp2_with (first | ((with_reducible refine gate_callee (f := 32) rfl ?_); refine goesL_ (some 10) rfl rfl Try.func32 (by kernel_rfl) rfl #[.agg #[.slice A0_0 l0_0.length c0_0]] rfl zr ?_; (with_reducible refine (spec_DiskOk.calls k _ _ l0_0 true _ ?side1 ?side2 A7.out).mono ?_); (case side1 => repeat (first | exact (Kd.C_below HR0_0.out HB.out) | (with_reducible refine Kd.C_alloc ?_ _) | (with_reducible refine Kd.C_drewN ?_ _) | (with_reducible refine Kd.C_drew ?_))); (case side2 => exact HC0_0.out); rintro e w42 ⟨rfl, hb⟩; refine ⟨_, rfl, ?_⟩; replace BK182 := zk hb BK182; replace BK183 := zk hb BK183; replace BK184 := zk hb BK184; replace HB := zs3 hb HB GE182 GE183 GE184; clear hb; obtain ⟨hnb43, hnc43⟩ := zn2 NB183_184; obtain ⟨hcz44_0, hcz44_1, hcz44_2, hcz44_3, hfz44_0, hfz44_1, hfz44_2, hfz44_3⟩ := zc4 BK183.out) | (go_at_call 33; (with_reducible refine (spec_l03Name.calls a1_1 true _ A9.out).mono ?_); rintro e w' ⟨rfl, ⟨nd, rfl⟩⟩))
      go_meet
      case rel => exact ⟨_, (true), (by first | rfl | (simp; done) | (simp [*]; done)), H', ⟨by first | omega | exact Nat.le_refl _⟩, ⟨kx BK182.out⟩, ⟨kx BK183.out⟩, ⟨kx BK184.out⟩, ⟨zb3 HB.out GE182.out GE183.out GE184.out⟩⟩
   ·replace c10 := Bool.eq_false_iff.mpr c10
    subst c10
    have H1 : (spec_DoAct.j0 k true l0_0 a1_0 a1_1 a1_2 a1_3) = some (r1, r2) := by rw [if_neg (show ¬ (false = true) by decide)] at H; exact H
    clear H
    have H := H1
    clear H1
    have H' := Aside0.mk H
    clear H
    obtain ⟨hnb45, hnc45⟩ := zn2 NB182_183
    obtain ⟨hnb46, hnc46⟩ := zn2 NB182_184
    obtain ⟨hcz47_0, hfz47_0⟩ := zc1 BK182.out
    go_wp2_with (first | ((with_reducible refine gate_callee (f := 32) rfl ?_); refine goesL_ (some 10) rfl rfl Try.func32 (by kernel_rfl) rfl #[.agg #[.slice A0_0 l0_0.length c0_0]] rfl zr ?_; (with_reducible refine (spec_DiskOk.calls k _ _ l0_0 true _ ?side1 ?side2 A7.out).mono ?_); (case side1 => repeat (first | exact (Kd.C_below HR0_0.out HB.out) | (with_reducible refine Kd.C_alloc ?_ _) | (with_reducible refine Kd.C_drewN ?_ _) | (with_reducible refine Kd.C_drew ?_))); (case side2 => exact HC0_0.out); rintro e w48 ⟨rfl, hb⟩; refine ⟨_, rfl, ?_⟩; replace BK182 := zk hb BK182; replace BK183 := zk hb BK183; replace BK184 := zk hb BK184; replace HB := zs3 hb HB GE182 GE183 GE184; clear hb; obtain ⟨hnb49, hnc49⟩ := zn2 NB183_184; obtain ⟨hcz50_0, hcz50_1, hcz50_2, hcz50_3, hfz50_0, hfz50_1, hfz50_2, hfz50_3⟩ := zc4 BK183.out) | (go_at_call 33; (with_reducible refine (spec_l03Name.calls a1_1 false _ A9.out).mono ?_); rintro e w' ⟨rfl, ⟨nd, rfl⟩⟩))
    go_meet
    case rel => exact ⟨_, (true), (by first | rfl | (simp; done) | (simp [*]; done)), H', ⟨by first | omega | exact Nat.le_refl _⟩, ⟨kx BK182.out⟩, ⟨kx BK183.out⟩, ⟨kx BK184.out⟩, ⟨zb3 HB.out GE182.out GE183.out GE184.out⟩⟩
  ·replace c8 := Bool.eq_false_iff.mpr c8
   subst c8
   have H1 : (spec_DoAct.j0 k true l0_0 a1_0 a1_1 a1_2 a1_3) = some (r1, r2) := by rw [if_neg (show ¬ (false = true) by decide)] at H; exact H
   clear H
   have H := H1
   clear H1
   have H' := Aside0.mk H
   clear H
   obtain ⟨hnb51, hnc51⟩ := zn2 NB182_183
   obtain ⟨hnb52, hnc52⟩ := zn2 NB182_184
   obtain ⟨hcz53_0, hfz53_0⟩ := zc1 BK182.out
   go_wp2_with (first | ((with_reducible refine gate_callee (f := 32) rfl ?_); refine goesL_ (some 10) rfl rfl Try.func32 (by kernel_rfl) rfl #[.agg #[.slice A0_0 l0_0.length c0_0]] rfl zr ?_; (with_reducible refine (spec_DiskOk.calls k _ _ l0_0 false _ ?side1 ?side2 A7.out).mono ?_); (case side1 => repeat (first | exact (Kd.C_below HR0_0.out HB.out) | (with_reducible refine Kd.C_alloc ?_ _) | (with_reducible refine Kd.C_drewN ?_ _) | (with_reducible refine Kd.C_drew ?_))); (case side2 => exact HC0_0.out); rintro e w54 ⟨rfl, hb⟩; refine ⟨_, rfl, ?_⟩; replace BK182 := zk hb BK182; replace BK183 := zk hb BK183; replace BK184 := zk hb BK184; replace HB := zs3 hb HB GE182 GE183 GE184; clear hb))
   go_meet
   case rel => exact ⟨_, (true), (by first | rfl | (simp; done) | (simp [*]; done)), H', ⟨by first | omega | exact Nat.le_refl _⟩, ⟨kx BK182.out⟩, ⟨kx BK183.out⟩, ⟨kx BK184.out⟩, ⟨zb3 HB.out GE182.out GE183.out GE184.out⟩⟩
 case rest =>
  clear HC3
  obtain ⟨kq, x37_2, rfl, HA, HJ2, BK182, BK183, BK184, HB⟩ := hcut
  cases kq with
  | zero => exact absurd HA.out (by simp [spec_DoAct.j0])
  | succ kj2 =>
   have H := HA.out
   clear HA
   simp only [spec_DoAct.j0] at H
   by_cases c55 : x37_2 = true
   ·subst c55
    have H1 : (some (([] : List (S66)), false)) = some (r1, r2) := by rw [if_pos rfl] at H; exact H
    clear H
    have H := H1
    clear H1
    simp only [Option.some.injEq, Prod.mk.injEq] at H
    obtain ⟨rfl, rfl⟩ := H
    obtain ⟨hnb56, hnc56⟩ := zn2 NB184_182
    obtain ⟨hnb57, hnc57⟩ := zn2 NB184_183
    obtain ⟨hcz58_0, hfz58_0⟩ := zc1 BK184.out
    go_wp2
    refine bodyPost_ret (results_ct rfl _ _ gb184 31 #[.slice none 0 0] (0, 0) _ rfl (zp0 BK184.out) Try.underlying31 rfl (by kernel_rfl)) rfl ?_
    exact ⟨_, by first | rfl | (simp [errW_none, errW_some] <;> rfl) | (simp [*, errW_none, errW_some] <;> rfl), by first | exact Kd.R_nil _ _ _ _ _ | exact Kd.N_nil _ _ _ _ _ | exact Kd.V_nil _ _ _ _ _ | exact Kd.Q_nil _ _ _ _ _ | exact Kd.S_nil _ _ _ _ _, zb3 HB.out GE182.out GE183.out GE184.out⟩
   ·replace c55 := Bool.eq_false_iff.mpr c55
    subst c55
    have H1 : ((spec_l03At.f kj2 l0_0 a1_1).bind fun t187 => (if t187 ≥ 0 then (if 0 ≤ t187 then (if t187 < (l0_0.length : Int) then (spec_DoAct.j1 kj2 t187 l0_0 a1_0 a1_1 a1_2 a1_3 ((rd_T66 l0_0 t187).f0) ((rd_T66 l0_0 t187).f1) ((rd_T66 l0_0 t187).f2)) else (none)) else (none)) else (spec_DoAct.j1 kj2 t187 l0_0 a1_0 a1_1 a1_2 a1_3 a1_1 (⟨#[]⟩ : ByteArray) 0))) = some (r1, r2) := by rw [if_neg (show ¬ (false = true) by decide)] at H; exact H
    clear H
    have H := H1
    clear H1
    replace H := Option.bind_eq_some_iff.mp H
    obtain ⟨t187, A590, H⟩ := H
    try dsimp only at H
    have A59 := Aside0.mk A590
    clear A590
    have HC60 := Aside0.mk H
    clear H
    obtain ⟨hnb61, hnc61⟩ := zn2 NB182_183
    obtain ⟨hnb62, hnc62⟩ := zn2 NB182_184
    obtain ⟨hcz63_0, hfz63_0⟩ := zc1 BK182.out
    obtain ⟨hnb64, hnc64⟩ := zn2 NB183_184
    obtain ⟨hcz65_0, hcz65_1, hcz65_2, hcz65_3, hfz65_0, hfz65_1, hfz65_2, hfz65_3⟩ := zc4 BK183.out
    go_upto_if 47 with (first | ((with_reducible refine gate_callee (f := 34) rfl ?_); refine goesL_ (some 42) rfl rfl Try.func34 (by kernel_rfl) rfl #[.agg #[.slice A0_0 l0_0.length c0_0], .string a1_1] rfl zr ?_; (with_reducible refine (spec_l03At.calls kj2 _ _ l0_0 a1_1 t187 _ ?side1 ?side2 A59.out).mono ?_); (case side1 => repeat (first | exact (Kd.C_below HR0_0.out HB.out) | (with_reducible refine Kd.C_alloc ?_ _) | (with_reducible refine Kd.C_drewN ?_ _) | (with_reducible refine Kd.C_drew ?_))); (case side2 => exact HC0_0.out); rintro e w66 ⟨rfl, hb⟩; refine ⟨_, rfl, ?_⟩; replace BK182 := zk hb BK182; replace BK183 := zk hb BK183; replace BK184 := zk hb BK184; replace HB := zs3 hb HB GE182 GE183 GE184; clear hb; obtain ⟨hcz67_0, hcz67_1, hcz67_2, hcz67_3, hfz67_0, hfz67_1, hfz67_2, hfz67_3⟩ := zc4 BK183.out) | ((with_reducible refine gate_dst (N := 7) rfl ?_); refine box_event rfl (N := 7) rfl (cs := #[.string (⟨#[]⟩ : ByteArray), .string (⟨#[]⟩ : ByteArray), .int .i64 0]) (t := 66) zrun ?_; intro gb188 hg w68 hbox hb; have BK188 := am (hbox); have GW188 := zge hg (zb3 HB.out GE182.out GE183.out GE184.out); have GE188 := zge hg (zb3 HB.out GE182.out GE183.out GE184.out); obtain ⟨NB182_188, NB188_182⟩ := zne hg BK182; obtain ⟨NB183_188, NB188_183⟩ := zne hg BK183; obtain ⟨NB184_188, NB188_184⟩ := zne hg BK184; replace BK182 := zk hb BK182; replace BK183 := zk hb BK183; replace BK184 := zk hb BK184; replace HB := zs3 hb HB GE182 GE183 GE184; clear hb hbox hg; obtain ⟨hnb69, hnc69⟩ := zn2 NB188_182; obtain ⟨hnb70, hnc70⟩ := zn2 NB188_183; obtain ⟨hnb71, hnc71⟩ := zn2 NB188_184; obtain ⟨hcz72_0, hcz72_1, hcz72_2, hfz72_0, hfz72_1, hfz72_2⟩ := zc3 BK188.out))
    (try simp only [Act.put, List.setIfInBounds_toArray, List.set_cons_zero, List.set_cons_succ])
    go_cut [] (fun wc => ∃ (kq : Nat) (x189000_59 : ByteArray) (x189001_59 : ByteArray) (x189002_59 : Int), Aside0 (spec_DoAct.j1 kq t187 l0_0 a1_0 a1_1 a1_2 a1_3 x189000_59 x189001_59 x189002_59 = some (r1, r2)) ∧ Aside0 (kq ≤ kj2) ∧ Aside0 (wc.heap[gb182]? = some (.cells #[(.slice A0_0 l0_0.length c0_0)] 31 (0, 0))) ∧ Aside0 (wc.heap[gb183]? = some (.cells #[.int .i64 a1_0, .string a1_1, .string a1_2, .string a1_3] 35 (0, 0))) ∧ Aside0 (wc.heap[gb184]? = some (.cells #[(.slice none 0 0)] 31 (0, 0))) ∧ Aside0 (wc.heap[gb188]? = some (.cells #[.string x189000_59, .string x189001_59, .int .i64 x189002_59] 66 (0, 0))) ∧ Aside0 (Below w.heap.size w wc))
    case first =>
     have H := HC60.out
     clear HC60
     by_cases c73 : t187 ≥ 0
     ·rw [if_pos c73] at H
      have c73b0 : decide (0 ≤ t187) = true := decide_eq_true c73
      clear c73
      (first | rw [c73b0] | (simp only [i64_w, i32_w]; rw [c73b0]) | skip)
      by_cases c74 : 0 ≤ t187
      ·rw [if_pos c74] at H
       have c74b0 : decide (0 ≤ t187) = true := decide_eq_true c74
       clear c74
       by_cases c75 : t187 < (l0_0.length : Int)
       ·rw [if_pos c75] at H
        have c75b0 : decide (t187 < (l0_0.length : Int)) = true := decide_eq_true c75
        have c75b1 : decide ((l0_0.length : Int) ≤ t187) = false := decide_eq_false (by omega)
        clear c75
        have H' := Aside0.mk H
        clear H
        obtain ⟨hnb76, hnc76⟩ := zn2 NB182_183
        obtain ⟨hnb77, hnc77⟩ := zn2 NB182_184
        obtain ⟨hnb78, hnc78⟩ := zn2 NB182_188
        obtain ⟨hcz79_0, hfz79_0⟩ := zc1 BK182.out
        have p189 : 0 ≤ (t187 : Int) := zpq
        have q189 : t187 < (l0_0.length : Int) := zpq
        obtain ⟨ad189, e189, hx189_0, hx189_1, hx189_2⟩ := at_T66 HR0_0.out t187 p189 q189
        cases e189
        have hn189_0 : ad189.block ≠ gb188 := Nat.ne_of_lt (Nat.lt_of_lt_of_le (by have := World.block_lt_of_cell? _ _ hx189_0; first | rwa [add_block] at this | exact this) GW188.out)
        have hn189_1 : ad189.block ≠ gb188 := Nat.ne_of_lt (Nat.lt_of_lt_of_le (by have := World.block_lt_of_cell? _ _ hx189_0; first | rwa [add_block] at this | exact this) GW188.out)
        have hn189_2 : ad189.block ≠ gb188 := Nat.ne_of_lt (Nat.lt_of_lt_of_le (by have := World.block_lt_of_cell? _ _ hx189_0; first | rwa [add_block] at this | exact this) GW188.out)
        replace hx189_0 := (HB.out.cell (World.block_lt_of_cell? w _ hx189_0)).trans hx189_0
        replace hx189_1 := (HB.out.cell (World.block_lt_of_cell? w _ hx189_1)).trans hx189_1
        replace hx189_2 := (HB.out.cell (World.block_lt_of_cell? w _ hx189_2)).trans hx189_2
        replace hx189_0 := (cell_far (p := ⟨gb188, 0, none⟩) (by first | (rw [add_block]; exact hn189_0) | (show (Addr.add _ _).block ≠ _; rw [add_block]; exact hn189_0) | exact hn189_0) (.string a1_1)).trans hx189_0
        replace hx189_1 := (cell_far (p := ⟨gb188, 0, none⟩) (by first | (rw [add_block]; exact hn189_0) | (show (Addr.add _ _).block ≠ _; rw [add_block]; exact hn189_0) | exact hn189_0) (.string a1_1)).trans hx189_1
        replace hx189_2 := (cell_far (p := ⟨gb188, 0, none⟩) (by first | (rw [add_block]; exact hn189_0) | (show (Addr.add _ _).block ≠ _; rw [add_block]; exact hn189_0) | exact hn189_0) (.string a1_1)).trans hx189_2
        replace hx189_0 := (cell_far (p := ⟨gb188, 1, none⟩) (by first | (rw [add_block]; exact hn189_1) | (show (Addr.add _ _).block ≠ _; rw [add_block]; exact hn189_1) | exact hn189_1) (.string (⟨#[]⟩ : ByteArray))).trans hx189_0
        replace hx189_1 := (cell_far (p := ⟨gb188, 1, none⟩) (by first | (rw [add_block]; exact hn189_1) | (show (Addr.add _ _).block ≠ _; rw [add_block]; exact hn189_1) | exact hn189_1) (.string (⟨#[]⟩ : ByteArray))).trans hx189_1
        replace hx189_2 := (cell_far (p := ⟨gb188, 1, none⟩) (by first | (rw [add_block]; exact hn189_1) | (show (Addr.add _ _).block ≠ _; rw [add_block]; exact hn189_1) | exact hn189_1) (.string (⟨#[]⟩ : ByteArray))).trans hx189_2
        replace hx189_0 := (cell_far (p := ⟨gb188, 2, none⟩) (by first | (rw [add_block]; exact hn189_2) | (show (Addr.add _ _).block ≠ _; rw [add_block]; exact hn189_2) | exact hn189_2) (.int .i64 0)).trans hx189_0
        replace hx189_1 := (cell_far (p := ⟨gb188, 2, none⟩) (by first | (rw [add_block]; exact hn189_2) | (show (Addr.add _ _).block ≠ _; rw [add_block]; exact hn189_2) | exact hn189_2) (.int .i64 0)).trans hx189_1
        replace hx189_2 := (cell_far (p := ⟨gb188, 2, none⟩) (by first | (rw [add_block]; exact hn189_2) | (show (Addr.add _ _).block ≠ _; rw [add_block]; exact hn189_2) | exact hn189_2) (.int .i64 0)).trans hx189_2
        clear hn189_0 hn189_1 hn189_2
        replace p189 := eq_true p189
        replace q189 := eq_true q189
        obtain ⟨hnb80, hnc80⟩ := zn2 NB188_183
        obtain ⟨hnb81, hnc81⟩ := zn2 NB188_184
        obtain ⟨hcz82_0, hcz82_1, hcz82_2, hfz82_0, hfz82_1, hfz82_2⟩ := zc3 BK188.out
        go_wp2
        go_meet
        case rel => exact ⟨_, ((rd_T66 l0_0 t187).f0), ((rd_T66 l0_0 t187).f1), ((rd_T66 l0_0 t187).f2), H', ⟨by have := HJ2.out; first | omega | exact Nat.le_refl _⟩, ⟨zf1 BK182.out NB182_188.out⟩, ⟨zf1 BK183.out NB183_188.out⟩, ⟨zf1 BK184.out NB184_188.out⟩, ⟨by (with_reducible repeat (first | refine blk_drewN ?_ _ | refine blk_drew ?_ | refine blk_alloc ?_ _)); refine blk_put (cs := #[.string ((rd_T66 l0_0 t187).f0), .string ((rd_T66 l0_0 t187).f1), .int .i64 0]) ?_ 2 _ rfl; (with_reducible repeat (first | refine blk_drewN ?_ _ | refine blk_drew ?_ | refine blk_alloc ?_ _)); refine blk_put (cs := #[.string ((rd_T66 l0_0 t187).f0), .string (⟨#[]⟩ : ByteArray), .int .i64 0]) ?_ 1 _ rfl; (with_reducible repeat (first | refine blk_drewN ?_ _ | refine blk_drew ?_ | refine blk_alloc ?_ _)); refine blk_put (cs := #[.string a1_1, .string (⟨#[]⟩ : ByteArray), .int .i64 0]) ?_ 0 _ rfl; (with_reducible repeat (first | refine blk_drewN ?_ _ | refine blk_drew ?_ | refine blk_alloc ?_ _)); refine blk_put (cs := #[.string a1_1, .string (⟨#[]⟩ : ByteArray), .int .i64 0]) ?_ 2 _ rfl; (with_reducible repeat (first | refine blk_drewN ?_ _ | refine blk_drew ?_ | refine blk_alloc ?_ _)); refine blk_put (cs := #[.string a1_1, .string (⟨#[]⟩ : ByteArray), .int .i64 0]) ?_ 1 _ rfl; (with_reducible repeat (first | refine blk_drewN ?_ _ | refine blk_drew ?_ | refine blk_alloc ?_ _)); refine blk_put (cs := #[.string (⟨#[]⟩ : ByteArray), .string (⟨#[]⟩ : ByteArray), .int .i64 0]) ?_ 0 _ rfl; (with_reducible repeat (first | refine blk_drewN ?_ _ | refine blk_drew ?_ | refine blk_alloc ?_ _)); exact BK188.out⟩, ⟨zb4 HB.out GE182.out GE183.out GE184.out GE188.out⟩⟩
       ·rw [if_neg c75] at H
        exact absurd H (by simp)
      ·rw [if_neg c74] at H
       exact absurd H (by simp)
     ·rw [if_neg c73] at H
      have c73b0 : decide (0 ≤ t187) = false := decide_eq_false c73
      clear c73
      (first | rw [c73b0] | (simp only [i64_w, i32_w]; rw [c73b0]) | skip)
      have H' := Aside0.mk H
      clear H
      go_wp2
      go_meet
      case rel => exact ⟨_, (a1_1), ((⟨#[]⟩ : ByteArray)), (0), H', ⟨by have := HJ2.out; first | omega | exact Nat.le_refl _⟩, ⟨zf1 BK182.out NB182_188.out⟩, ⟨zf1 BK183.out NB183_188.out⟩, ⟨zf1 BK184.out NB184_188.out⟩, ⟨by (with_reducible repeat (first | refine blk_drewN ?_ _ | refine blk_drew ?_ | refine blk_alloc ?_ _)); refine blk_put (cs := #[.string a1_1, .string (⟨#[]⟩ : ByteArray), .int .i64 0]) ?_ 2 _ rfl; (with_reducible repeat (first | refine blk_drewN ?_ _ | refine blk_drew ?_ | refine blk_alloc ?_ _)); refine blk_put (cs := #[.string a1_1, .string (⟨#[]⟩ : ByteArray), .int .i64 0]) ?_ 1 _ rfl; (with_reducible repeat (first | refine blk_drewN ?_ _ | refine blk_drew ?_ | refine blk_alloc ?_ _)); refine blk_put (cs := #[.string (⟨#[]⟩ : ByteArray), .string (⟨#[]⟩ : ByteArray), .int .i64 0]) ?_ 0 _ rfl; (with_reducible repeat (first | refine blk_drewN ?_ _ | refine blk_drew ?_ | refine blk_alloc ?_ _)); exact BK188.out⟩, ⟨zb4 HB.out GE182.out GE183.out GE184.out GE188.out⟩⟩
    case rest =>
     clear HC60
     obtain ⟨kq, x189000_59, x189001_59, x189002_59, HA, HJ59, BK182, BK183, BK184, BK188, HB⟩ := hcut
     cases kq with
     | zero => exact absurd HA.out (by simp [spec_DoAct.j1])
     | succ kj59 =>
      have H := HA.out
      clear HA
      simp only [spec_DoAct.j1] at H
      by_cases c83 : a1_0 = 1
      ·rw [if_pos c83] at H
       have c83b0 : (a1_0 == 1) = true := beq_iff_eq.mpr c83
       have c83b1 : (a1_0 != 1) = false := bne_eq_false_iff_eq.mpr c83
       clear c83
       by_cases c84 : x189001_59.size + a1_2.size ≤ 9223372036854775807
       ·rw [if_pos c84] at H
        have c84b0 := eq_true c84
        have c84b1 : decide (x189001_59.size + a1_2.size ≤ 9223372036854775807) = true := decide_eq_true c84
        try have c84b2 : (9223372036854775807 < x189001_59.size + a1_2.size) = False := eq_false (Nat.not_lt.2 c84)
        replace H := Option.bind_eq_some_iff.mp H
        obtain ⟨t191, A850, H⟩ := H
        try dsimp only at H
        have A85 := Aside0.mk A850
        clear A850
        replace H := Option.bind_eq_some_iff.mp H
        obtain ⟨t194, A860, H⟩ := H
        try dsimp only at H
        have A86 := Aside0.mk A860
        clear A860
        by_cases c87 : t194 = true
        ·subst c87
         have H1 : (some (t191, true)) = some (r1, r2) := by rw [if_pos rfl] at H; exact H
         clear H
         have H := H1
         clear H1
         simp only [Option.some.injEq, Prod.mk.injEq] at H
         obtain ⟨rfl, rfl⟩ := H
         go_wp2_with (first | ((with_reducible refine gate_dst (N := 8) rfl ?_); refine box_event rfl (N := 8) rfl (cs := #[.slice none 0 0]) (t := 31) zrun ?_; intro gb190 hg w88 hbox hb; have BK190 := am (hbox); have GW190 := zge hg (zb4 HB.out GE182.out GE183.out GE184.out GE188.out); have GE190 := zge hg (zb4 HB.out GE182.out GE183.out GE184.out GE188.out); obtain ⟨NB182_190, NB190_182⟩ := zne hg BK182; obtain ⟨NB183_190, NB190_183⟩ := zne hg BK183; obtain ⟨NB184_190, NB190_184⟩ := zne hg BK184; obtain ⟨NB188_190, NB190_188⟩ := zne hg BK188; replace BK182 := zk hb BK182; replace BK183 := zk hb BK183; replace BK184 := zk hb BK184; replace BK188 := zk hb BK188; replace HB := zs4 hb HB GE182 GE183 GE184 GE188; clear hb hbox hg; obtain ⟨hnb89, hnc89⟩ := zn2 NB190_182; obtain ⟨hnb90, hnc90⟩ := zn2 NB190_183; obtain ⟨hnb91, hnc91⟩ := zn2 NB190_184; obtain ⟨hnb92, hnc92⟩ := zn2 NB190_188; obtain ⟨hcz93_0, hfz93_0⟩ := zc1 BK190.out; obtain ⟨hnb94, hnc94⟩ := zn2 NB183_182; obtain ⟨hnb95, hnc95⟩ := zn2 NB183_184; obtain ⟨hnb96, hnc96⟩ := zn2 NB183_188; obtain ⟨hcz97_0, hcz97_1, hcz97_2, hcz97_3, hfz97_0, hfz97_1, hfz97_2, hfz97_3⟩ := zc4 BK183.out; obtain ⟨hnb98, hnc98⟩ := zn2 NB188_182; obtain ⟨hnb99, hnc99⟩ := zn2 NB188_184; obtain ⟨hcz100_0, hcz100_1, hcz100_2, hfz100_0, hfz100_1, hfz100_2⟩ := zc3 BK188.out; obtain ⟨hnb101, hnc101⟩ := zn2 NB182_184; obtain ⟨hcz102_0, hfz102_0⟩ := zc1 BK182.out) | ((with_reducible refine gate_callee (f := 35) rfl ?_); refine goesL_ (some 67) rfl rfl Try.func35 (by kernel_rfl) rfl #[.agg #[.slice A0_0 l0_0.length c0_0], .agg #[.string x189000_59, .string (x189001_59 ++ a1_2), .int .i64 x189002_59]] rfl zr ?_; (with_reducible refine (spec_l03Put.calls kj59 _ _ l0_0 x189000_59 (x189001_59 ++ a1_2) x189002_59 t191 _ ?side1 ?side2 A85.out).mono ?_); (case side1 => exact Kd.C_below HR0_0.out (zb5 HB.out GE182.out GE183.out GE184.out GE188.out GE190.out)); (case side2 => exact HC0_0.out); rintro e w103 ⟨v192, rfl, ho0, hb⟩; refine ⟨_, rfl, ?_⟩; have HO193 := am (Kd.R_lower (Kd.R_newB ho0 (g := gb188) (o := .cells #[.string x189000_59, .string (x189001_59 ++ a1_2), .int .i64 x189002_59] 66 (0, 0)) (zp1 BK188.out NB188_190.out)) (below_size (zb5 HB.out GE182.out GE183.out GE184.out GE188.out GE190.out))); replace BK182 := zh2 hb BK182 NB182_188 NB182_190; replace BK183 := zh2 hb BK183 NB183_188 NB183_190; replace BK184 := zh2 hb BK184 NB184_188 NB184_190; replace BK188 := am (blk_below (g := gb188) (o := .cells #[.string x189000_59, .string (x189001_59 ++ a1_2), .int .i64 x189002_59] 66 (0, 0)) (zp1 BK188.out NB188_190.out) hb); replace BK190 := am (blk_below (g := gb190) (o := .cells #[.slice none 0 0] 31 (0, 0)) (zp1 BK190.out NB190_188.out) hb); replace HB := zs5 hb HB GE182 GE183 GE184 GE188 GE190; clear hb ho0; obtain ⟨Ao104, co104, eo104⟩ := Kd.R_slice HO193.out; subst eo104; obtain ⟨hcz105_0, hfz105_0⟩ := zc1 BK190.out) | ((with_reducible refine gate_callee (f := 32) rfl ?_); refine goesL_ (some 125) rfl rfl Try.func32 (by kernel_rfl) rfl #[.agg #[.slice Ao104 t191.length co104]] rfl zr ?_; (with_reducible refine (spec_DiskOk.calls kj59 _ _ t191 true _ ?side1 ?side2 A86.out).mono ?_); (case side1 => refine (Kd.R_reads' (e := 66) (base := w.heap.size) (ok := fun k_ => (True ∧ k_ ≠ gb188)) (n := t191.length) (c := co104) ?_).2.2; exact (rx ((zrf 0 (.slice Ao104 t191.length co104) HO193 BK190)))); (case side2 => exact (Kd.R_reads' HO193.out).2.1); rintro e w106 ⟨rfl, hb⟩; refine ⟨_, rfl, ?_⟩; replace HO193 := am (Kd.R_below (rx ((zrf 0 (.slice Ao104 t191.length co104) HO193 BK190))) hb); replace BK182 := zh1 hb BK182 NB182_190; replace BK183 := zh1 hb BK183 NB183_190; replace BK184 := zh1 hb BK184 NB184_190; replace BK188 := zh1 hb BK188 NB188_190; replace BK190 := am (blk_below (g := gb190) (o := .cells #[.slice Ao104 t191.length co104] 31 (0, 0)) (zp0 BK190.out) hb); replace HB := zs5 hb HB GE182 GE183 GE184 GE188 GE190; clear hb; obtain ⟨hcz107_0, hfz107_0⟩ := zc1 BK190.out; obtain ⟨hcz108_0, hfz108_0⟩ := zc1 BK184.out))
         refine bodyPost_ret (results_ct rfl _ _ gb184 31 #[.slice Ao104 t191.length co104] (0, 0) _ rfl (zp0 BK184.out) Try.underlying31 rfl (by kernel_rfl)) rfl ?_
         exact ⟨_, by first | rfl | (simp [errW_none, errW_some] <;> rfl) | (simp [*, errW_none, errW_some] <;> rfl), rx (Kd.R_mono (Kd.R_far (p := ⟨gb184, 0, none⟩) (Kd.R_types HO193.out BK184.out (by decide)) (fun _ hk => hk.2) (.slice Ao104 t191.length co104)) (fun _ hk => trivial)), zb5 HB.out GE182.out GE183.out GE184.out GE188.out GE190.out⟩
        ·replace c87 := Bool.eq_false_iff.mpr c87
         subst c87
         have H1 : (some (([] : List (S66)), false)) = some (r1, r2) := by rw [if_neg (show ¬ (false = true) by decide)] at H; exact H
         clear H
         have H := H1
         clear H1
         simp only [Option.some.injEq, Prod.mk.injEq] at H
         obtain ⟨rfl, rfl⟩ := H
         go_wp2_with (first | ((with_reducible refine gate_dst (N := 8) rfl ?_); refine box_event rfl (N := 8) rfl (cs := #[.slice none 0 0]) (t := 31) zrun ?_; intro gb190 hg w109 hbox hb; have BK190 := am (hbox); have GW190 := zge hg (zb4 HB.out GE182.out GE183.out GE184.out GE188.out); have GE190 := zge hg (zb4 HB.out GE182.out GE183.out GE184.out GE188.out); obtain ⟨NB182_190, NB190_182⟩ := zne hg BK182; obtain ⟨NB183_190, NB190_183⟩ := zne hg BK183; obtain ⟨NB184_190, NB190_184⟩ := zne hg BK184; obtain ⟨NB188_190, NB190_188⟩ := zne hg BK188; replace BK182 := zk hb BK182; replace BK183 := zk hb BK183; replace BK184 := zk hb BK184; replace BK188 := zk hb BK188; replace HB := zs4 hb HB GE182 GE183 GE184 GE188; clear hb hbox hg; obtain ⟨hnb110, hnc110⟩ := zn2 NB190_182; obtain ⟨hnb111, hnc111⟩ := zn2 NB190_183; obtain ⟨hnb112, hnc112⟩ := zn2 NB190_184; obtain ⟨hnb113, hnc113⟩ := zn2 NB190_188; obtain ⟨hcz114_0, hfz114_0⟩ := zc1 BK190.out; obtain ⟨hnb115, hnc115⟩ := zn2 NB183_182; obtain ⟨hnb116, hnc116⟩ := zn2 NB183_184; obtain ⟨hnb117, hnc117⟩ := zn2 NB183_188; obtain ⟨hcz118_0, hcz118_1, hcz118_2, hcz118_3, hfz118_0, hfz118_1, hfz118_2, hfz118_3⟩ := zc4 BK183.out; obtain ⟨hnb119, hnc119⟩ := zn2 NB188_182; obtain ⟨hnb120, hnc120⟩ := zn2 NB188_184; obtain ⟨hcz121_0, hcz121_1, hcz121_2, hfz121_0, hfz121_1, hfz121_2⟩ := zc3 BK188.out; obtain ⟨hnb122, hnc122⟩ := zn2 NB182_184; obtain ⟨hcz123_0, hfz123_0⟩ := zc1 BK182.out) | ((with_reducible refine gate_callee (f := 35) rfl ?_); refine goesL_ (some 67) rfl rfl Try.func35 (by kernel_rfl) rfl #[.agg #[.slice A0_0 l0_0.length c0_0], .agg #[.string x189000_59, .string (x189001_59 ++ a1_2), .int .i64 x189002_59]] rfl zr ?_; (with_reducible refine (spec_l03Put.calls kj59 _ _ l0_0 x189000_59 (x189001_59 ++ a1_2) x189002_59 t191 _ ?side1 ?side2 A85.out).mono ?_); (case side1 => exact Kd.C_below HR0_0.out (zb5 HB.out GE182.out GE183.out GE184.out GE188.out GE190.out)); (case side2 => exact HC0_0.out); rintro e w124 ⟨v192, rfl, ho0, hb⟩; refine ⟨_, rfl, ?_⟩; have HO193 := am (Kd.R_lower (Kd.R_newB ho0 (g := gb188) (o := .cells #[.string x189000_59, .string (x189001_59 ++ a1_2), .int .i64 x189002_59] 66 (0, 0)) (zp1 BK188.out NB188_190.out)) (below_size (zb5 HB.out GE182.out GE183.out GE184.out GE188.out GE190.out))); replace BK182 := zh2 hb BK182 NB182_188 NB182_190; replace BK183 := zh2 hb BK183 NB183_188 NB183_190; replace BK184 := zh2 hb BK184 NB184_188 NB184_190; replace BK188 := am (blk_below (g := gb188) (o := .cells #[.string x189000_59, .string (x189001_59 ++ a1_2), .int .i64 x189002_59] 66 (0, 0)) (zp1 BK188.out NB188_190.out) hb); replace BK190 := am (blk_below (g := gb190) (o := .cells #[.slice none 0 0] 31 (0, 0)) (zp1 BK190.out NB190_188.out) hb); replace HB := zs5 hb HB GE182 GE183 GE184 GE188 GE190; clear hb ho0; obtain ⟨Ao125, co125, eo125⟩ := Kd.R_slice HO193.out; subst eo125; obtain ⟨hcz126_0, hfz126_0⟩ := zc1 BK190.out) | ((with_reducible refine gate_callee (f := 32) rfl ?_); refine goesL_ (some 125) rfl rfl Try.func32 (by kernel_rfl) rfl #[.agg #[.slice Ao125 t191.length co125]] rfl zr ?_; (with_reducible refine (spec_DiskOk.calls kj59 _ _ t191 false _ ?side1 ?side2 A86.out).mono ?_); (case side1 => refine (Kd.R_reads' (e := 66) (base := w.heap.size) (ok := fun k_ => (True ∧ k_ ≠ gb188)) (n := t191.length) (c := co125) ?_).2.2; exact (rx ((zrf 0 (.slice Ao125 t191.length co125) HO193 BK190)))); (case side2 => exact (Kd.R_reads' HO193.out).2.1); rintro e w127 ⟨rfl, hb⟩; refine ⟨_, rfl, ?_⟩; replace HO193 := am (Kd.R_below (rx ((zrf 0 (.slice Ao125 t191.length co125) HO193 BK190))) hb); replace BK182 := zh1 hb BK182 NB182_190; replace BK183 := zh1 hb BK183 NB183_190; replace BK184 := zh1 hb BK184 NB184_190; replace BK188 := zh1 hb BK188 NB188_190; replace BK190 := am (blk_below (g := gb190) (o := .cells #[.slice Ao125 t191.length co125] 31 (0, 0)) (zp0 BK190.out) hb); replace HB := zs5 hb HB GE182 GE183 GE184 GE188 GE190; clear hb; obtain ⟨hcz128_0, hfz128_0⟩ := zc1 BK184.out))
         refine bodyPost_ret (results_ct rfl _ _ gb184 31 #[.slice none 0 0] (0, 0) _ rfl (zp0 BK184.out) Try.underlying31 rfl (by kernel_rfl)) rfl ?_
         exact ⟨_, by first | rfl | (simp [errW_none, errW_some] <;> rfl) | (simp [*, errW_none, errW_some] <;> rfl), by first | exact Kd.R_nil _ _ _ _ _ | exact Kd.N_nil _ _ _ _ _ | exact Kd.V_nil _ _ _ _ _ | exact Kd.Q_nil _ _ _ _ _ | exact Kd.S_nil _ _ _ _ _, zb5 HB.out GE182.out GE183.out GE184.out GE188.out GE190.out⟩
       ·rw [if_neg c84] at H
        exact absurd H (by simp)
      ·rw [if_neg c83] at H
       have c83b0 : (a1_0 == 1) = false := beq_eq_false_iff_ne.mpr c83
       have c83b1 : (a1_0 != 1) = true := bne_iff_ne.mpr c83
       by_cases c129 : t187 < 0
       ·rw [if_pos c129] at H
        have c129b0 : decide (t187 < 0) = true := decide_eq_true c129
        clear c129
        simp only [Option.some.injEq, Prod.mk.injEq] at H
        obtain ⟨rfl, rfl⟩ := H
        go_wp2_with (first | ((with_reducible refine gate_dst (N := 8) rfl ?_); refine box_event rfl (N := 8) rfl (cs := #[.slice none 0 0]) (t := 31) zrun ?_; intro gb190 hg w130 hbox hb; have BK190 := am (hbox); have GW190 := zge hg (zb4 HB.out GE182.out GE183.out GE184.out GE188.out); have GE190 := zge hg (zb4 HB.out GE182.out GE183.out GE184.out GE188.out); obtain ⟨NB182_190, NB190_182⟩ := zne hg BK182; obtain ⟨NB183_190, NB190_183⟩ := zne hg BK183; obtain ⟨NB184_190, NB190_184⟩ := zne hg BK184; obtain ⟨NB188_190, NB190_188⟩ := zne hg BK188; replace BK182 := zk hb BK182; replace BK183 := zk hb BK183; replace BK184 := zk hb BK184; replace BK188 := zk hb BK188; replace HB := zs4 hb HB GE182 GE183 GE184 GE188; clear hb hbox hg; obtain ⟨hnb131, hnc131⟩ := zn2 NB190_182; obtain ⟨hnb132, hnc132⟩ := zn2 NB190_183; obtain ⟨hnb133, hnc133⟩ := zn2 NB190_184; obtain ⟨hnb134, hnc134⟩ := zn2 NB190_188; obtain ⟨hcz135_0, hfz135_0⟩ := zc1 BK190.out; obtain ⟨hnb136, hnc136⟩ := zn2 NB183_182; obtain ⟨hnb137, hnc137⟩ := zn2 NB183_184; obtain ⟨hnb138, hnc138⟩ := zn2 NB183_188; obtain ⟨hcz139_0, hcz139_1, hcz139_2, hcz139_3, hfz139_0, hfz139_1, hfz139_2, hfz139_3⟩ := zc4 BK183.out; obtain ⟨hnb140, hnc140⟩ := zn2 NB184_182; obtain ⟨hnb141, hnc141⟩ := zn2 NB184_188; obtain ⟨hcz142_0, hfz142_0⟩ := zc1 BK184.out))
        refine bodyPost_ret (results_ct rfl _ _ gb184 31 #[.slice none 0 0] (0, 0) _ rfl (zp1 BK184.out NB184_190.out) Try.underlying31 rfl (by kernel_rfl)) rfl ?_
        exact ⟨_, by first | rfl | (simp [errW_none, errW_some] <;> rfl) | (simp [*, errW_none, errW_some] <;> rfl), by first | exact Kd.R_nil _ _ _ _ _ | exact Kd.N_nil _ _ _ _ _ | exact Kd.V_nil _ _ _ _ _ | exact Kd.Q_nil _ _ _ _ _ | exact Kd.S_nil _ _ _ _ _, zb5 HB.out GE182.out GE183.out GE184.out GE188.out GE190.out⟩
       ·rw [if_neg c129] at H
        have c129b0 : decide (t187 < 0) = false := decide_eq_false c129
        clear c129
        by_cases c143 : a1_0 = 2
        ·rw [if_pos c143] at H
         have c143b0 : (a1_0 == 2) = true := beq_iff_eq.mpr c143
         have c143b1 : (a1_0 != 2) = false := bne_eq_false_iff_eq.mpr c143
         clear c143
         replace H := Option.bind_eq_some_iff.mp H
         obtain ⟨t195, A1440, H⟩ := H
         try dsimp only at H
         have A144 := Aside0.mk A1440
         clear A1440
         replace H := Option.bind_eq_some_iff.mp H
         obtain ⟨t198, A1450, H⟩ := H
         try dsimp only at H
         have A145 := Aside0.mk A1450
         clear A1450
         by_cases c146 : t198 = true
         ·subst c146
          have H1 : (some (t195, true)) = some (r1, r2) := by rw [if_pos rfl] at H; exact H
          clear H
          have H := H1
          clear H1
          simp only [Option.some.injEq, Prod.mk.injEq] at H
          obtain ⟨rfl, rfl⟩ := H
          go_wp2_with (first | ((with_reducible refine gate_dst (N := 8) rfl ?_); refine box_event rfl (N := 8) rfl (cs := #[.slice none 0 0]) (t := 31) zrun ?_; intro gb190 hg w147 hbox hb; have BK190 := am (hbox); have GW190 := zge hg (zb4 HB.out GE182.out GE183.out GE184.out GE188.out); have GE190 := zge hg (zb4 HB.out GE182.out GE183.out GE184.out GE188.out); obtain ⟨NB182_190, NB190_182⟩ := zne hg BK182; obtain ⟨NB183_190, NB190_183⟩ := zne hg BK183; obtain ⟨NB184_190, NB190_184⟩ := zne hg BK184; obtain ⟨NB188_190, NB190_188⟩ := zne hg BK188; replace BK182 := zk hb BK182; replace BK183 := zk hb BK183; replace BK184 := zk hb BK184; replace BK188 := zk hb BK188; replace HB := zs4 hb HB GE182 GE183 GE184 GE188; clear hb hbox hg; obtain ⟨hnb148, hnc148⟩ := zn2 NB190_182; obtain ⟨hnb149, hnc149⟩ := zn2 NB190_183; obtain ⟨hnb150, hnc150⟩ := zn2 NB190_184; obtain ⟨hnb151, hnc151⟩ := zn2 NB190_188; obtain ⟨hcz152_0, hfz152_0⟩ := zc1 BK190.out; obtain ⟨hnb153, hnc153⟩ := zn2 NB183_182; obtain ⟨hnb154, hnc154⟩ := zn2 NB183_184; obtain ⟨hnb155, hnc155⟩ := zn2 NB183_188; obtain ⟨hcz156_0, hcz156_1, hcz156_2, hcz156_3, hfz156_0, hfz156_1, hfz156_2, hfz156_3⟩ := zc4 BK183.out; obtain ⟨hnb157, hnc157⟩ := zn2 NB188_182; obtain ⟨hnb158, hnc158⟩ := zn2 NB188_184; obtain ⟨hcz159_0, hcz159_1, hcz159_2, hfz159_0, hfz159_1, hfz159_2⟩ := zc3 BK188.out; obtain ⟨hnb160, hnc160⟩ := zn2 NB182_184; obtain ⟨hcz161_0, hfz161_0⟩ := zc1 BK182.out) | ((with_reducible refine gate_callee (f := 35) rfl ?_); refine goesL_ (some 82) rfl rfl Try.func35 (by kernel_rfl) rfl #[.agg #[.slice A0_0 l0_0.length c0_0], .agg #[.string x189000_59, .string x189001_59, .int .i64 (x189001_59.size : Int)]] rfl zr ?_; (with_reducible refine (spec_l03Put.calls kj59 _ _ l0_0 x189000_59 x189001_59 (x189001_59.size : Int) t195 _ ?side1 ?side2 A144.out).mono ?_); (case side1 => exact Kd.C_below HR0_0.out (zb5 HB.out GE182.out GE183.out GE184.out GE188.out GE190.out)); (case side2 => exact HC0_0.out); rintro e w162 ⟨v196, rfl, ho0, hb⟩; refine ⟨_, rfl, ?_⟩; have HO197 := am (Kd.R_lower (Kd.R_newB ho0 (g := gb188) (o := .cells #[.string x189000_59, .string x189001_59, .int .i64 (x189001_59.size : Int)] 66 (0, 0)) (zp1 BK188.out NB188_190.out)) (below_size (zb5 HB.out GE182.out GE183.out GE184.out GE188.out GE190.out))); replace BK182 := zh2 hb BK182 NB182_188 NB182_190; replace BK183 := zh2 hb BK183 NB183_188 NB183_190; replace BK184 := zh2 hb BK184 NB184_188 NB184_190; replace BK188 := am (blk_below (g := gb188) (o := .cells #[.string x189000_59, .string x189001_59, .int .i64 (x189001_59.size : Int)] 66 (0, 0)) (zp1 BK188.out NB188_190.out) hb); replace BK190 := am (blk_below (g := gb190) (o := .cells #[.slice none 0 0] 31 (0, 0)) (zp1 BK190.out NB190_188.out) hb); replace HB := zs5 hb HB GE182 GE183 GE184 GE188 GE190; clear hb ho0; obtain ⟨Ao163, co163, eo163⟩ := Kd.R_slice HO197.out; subst eo163; obtain ⟨hcz164_0, hfz164_0⟩ := zc1 BK190.out) | ((with_reducible refine gate_callee (f := 32) rfl ?_); refine goesL_ (some 125) rfl rfl Try.func32 (by kernel_rfl) rfl #[.agg #[.slice Ao163 t195.length co163]] rfl zr ?_; (with_reducible refine (spec_DiskOk.calls kj59 _ _ t195 true _ ?side1 ?side2 A145.out).mono ?_); (case side1 => refine (Kd.R_reads' (e := 66) (base := w.heap.size) (ok := fun k_ => (True ∧ k_ ≠ gb188)) (n := t195.length) (c := co163) ?_).2.2; exact (rx ((zrf 0 (.slice Ao163 t195.length co163) HO197 BK190)))); (case side2 => exact (Kd.R_reads' HO197.out).2.1); rintro e w165 ⟨rfl, hb⟩; refine ⟨_, rfl, ?_⟩; replace HO197 := am (Kd.R_below (rx ((zrf 0 (.slice Ao163 t195.length co163) HO197 BK190))) hb); replace BK182 := zh1 hb BK182 NB182_190; replace BK183 := zh1 hb BK183 NB183_190; replace BK184 := zh1 hb BK184 NB184_190; replace BK188 := zh1 hb BK188 NB188_190; replace BK190 := am (blk_below (g := gb190) (o := .cells #[.slice Ao163 t195.length co163] 31 (0, 0)) (zp0 BK190.out) hb); replace HB := zs5 hb HB GE182 GE183 GE184 GE188 GE190; clear hb; obtain ⟨hcz166_0, hfz166_0⟩ := zc1 BK190.out; obtain ⟨hcz167_0, hfz167_0⟩ := zc1 BK184.out))
          refine bodyPost_ret (results_ct rfl _ _ gb184 31 #[.slice Ao163 t195.length co163] (0, 0) _ rfl (zp0 BK184.out) Try.underlying31 rfl (by kernel_rfl)) rfl ?_
          exact ⟨_, by first | rfl | (simp [errW_none, errW_some] <;> rfl) | (simp [*, errW_none, errW_some] <;> rfl), rx (Kd.R_mono (Kd.R_far (p := ⟨gb184, 0, none⟩) (Kd.R_types HO197.out BK184.out (by decide)) (fun _ hk => hk.2) (.slice Ao163 t195.length co163)) (fun _ hk => trivial)), zb5 HB.out GE182.out GE183.out GE184.out GE188.out GE190.out⟩
         ·replace c146 := Bool.eq_false_iff.mpr c146
          subst c146
          have H1 : (some (([] : List (S66)), false)) = some (r1, r2) := by rw [if_neg (show ¬ (false = true) by decide)] at H; exact H
          clear H
          have H := H1
          clear H1
          simp only [Option.some.injEq, Prod.mk.injEq] at H
          obtain ⟨rfl, rfl⟩ := H
          go_wp2_with (first | ((with_reducible refine gate_dst (N := 8) rfl ?_); refine box_event rfl (N := 8) rfl (cs := #[.slice none 0 0]) (t := 31) zrun ?_; intro gb190 hg w168 hbox hb; have BK190 := am (hbox); have GW190 := zge hg (zb4 HB.out GE182.out GE183.out GE184.out GE188.out); have GE190 := zge hg (zb4 HB.out GE182.out GE183.out GE184.out GE188.out); obtain ⟨NB182_190, NB190_182⟩ := zne hg BK182; obtain ⟨NB183_190, NB190_183⟩ := zne hg BK183; obtain ⟨NB184_190, NB190_184⟩ := zne hg BK184; obtain ⟨NB188_190, NB190_188⟩ := zne hg BK188; replace BK182 := zk hb BK182; replace BK183 := zk hb BK183; replace BK184 := zk hb BK184; replace BK188 := zk hb BK188; replace HB := zs4 hb HB GE182 GE183 GE184 GE188; clear hb hbox hg; obtain ⟨hnb169, hnc169⟩ := zn2 NB190_182; obtain ⟨hnb170, hnc170⟩ := zn2 NB190_183; obtain ⟨hnb171, hnc171⟩ := zn2 NB190_184; obtain ⟨hnb172, hnc172⟩ := zn2 NB190_188; obtain ⟨hcz173_0, hfz173_0⟩ := zc1 BK190.out; obtain ⟨hnb174, hnc174⟩ := zn2 NB183_182; obtain ⟨hnb175, hnc175⟩ := zn2 NB183_184; obtain ⟨hnb176, hnc176⟩ := zn2 NB183_188; obtain ⟨hcz177_0, hcz177_1, hcz177_2, hcz177_3, hfz177_0, hfz177_1, hfz177_2, hfz177_3⟩ := zc4 BK183.out; obtain ⟨hnb178, hnc178⟩ := zn2 NB188_182; obtain ⟨hnb179, hnc179⟩ := zn2 NB188_184; obtain ⟨hcz180_0, hcz180_1, hcz180_2, hfz180_0, hfz180_1, hfz180_2⟩ := zc3 BK188.out; obtain ⟨hnb181, hnc181⟩ := zn2 NB182_184; obtain ⟨hcz182_0, hfz182_0⟩ := zc1 BK182.out) | ((with_reducible refine gate_callee (f := 35) rfl ?_); refine goesL_ (some 82) rfl rfl Try.func35 (by kernel_rfl) rfl #[.agg #[.slice A0_0 l0_0.length c0_0], .agg #[.string x189000_59, .string x189001_59, .int .i64 (x189001_59.size : Int)]] rfl zr ?_; (with_reducible refine (spec_l03Put.calls kj59 _ _ l0_0 x189000_59 x189001_59 (x189001_59.size : Int) t195 _ ?side1 ?side2 A144.out).mono ?_); (case side1 => exact Kd.C_below HR0_0.out (zb5 HB.out GE182.out GE183.out GE184.out GE188.out GE190.out)); (case side2 => exact HC0_0.out); rintro e w183 ⟨v196, rfl, ho0, hb⟩; refine ⟨_, rfl, ?_⟩; have HO197 := am (Kd.R_lower (Kd.R_newB ho0 (g := gb188) (o := .cells #[.string x189000_59, .string x189001_59, .int .i64 (x189001_59.size : Int)] 66 (0, 0)) (zp1 BK188.out NB188_190.out)) (below_size (zb5 HB.out GE182.out GE183.out GE184.out GE188.out GE190.out))); replace BK182 := zh2 hb BK182 NB182_188 NB182_190; replace BK183 := zh2 hb BK183 NB183_188 NB183_190; replace BK184 := zh2 hb BK184 NB184_188 NB184_190; replace BK188 := am (blk_below (g := gb188) (o := .cells #[.string x189000_59, .string x189001_59, .int .i64 (x189001_59.size : Int)] 66 (0, 0)) (zp1 BK188.out NB188_190.out) hb); replace BK190 := am (blk_below (g := gb190) (o := .cells #[.slice none 0 0] 31 (0, 0)) (zp1 BK190.out NB190_188.out) hb); replace HB := zs5 hb HB GE182 GE183 GE184 GE188 GE190; clear hb ho0; obtain ⟨Ao184, co184, eo184⟩ := Kd.R_slice HO197.out; subst eo184; obtain ⟨hcz185_0, hfz185_0⟩ := zc1 BK190.out) | ((with_reducible refine gate_callee (f := 32) rfl ?_); refine goesL_ (some 125) rfl rfl Try.func32 (by kernel_rfl) rfl #[.agg #[.slice Ao184 t195.length co184]] rfl zr ?_; (with_reducible refine (spec_DiskOk.calls kj59 _ _ t195 false _ ?side1 ?side2 A145.out).mono ?_); (case side1 => refine (Kd.R_reads' (e := 66) (base := w.heap.size) (ok := fun k_ => (True ∧ k_ ≠ gb188)) (n := t195.length) (c := co184) ?_).2.2; exact (rx ((zrf 0 (.slice Ao184 t195.length co184) HO197 BK190)))); (case side2 => exact (Kd.R_reads' HO197.out).2.1); rintro e w186 ⟨rfl, hb⟩; refine ⟨_, rfl, ?_⟩; replace HO197 := am (Kd.R_below (rx ((zrf 0 (.slice Ao184 t195.length co184) HO197 BK190))) hb); replace BK182 := zh1 hb BK182 NB182_190; replace BK183 := zh1 hb BK183 NB183_190; replace BK184 := zh1 hb BK184 NB184_190; replace BK188 := zh1 hb BK188 NB188_190; replace BK190 := am (blk_below (g := gb190) (o := .cells #[.slice Ao184 t195.length co184] 31 (0, 0)) (zp0 BK190.out) hb); replace HB := zs5 hb HB GE182 GE183 GE184 GE188 GE190; clear hb; obtain ⟨hcz187_0, hfz187_0⟩ := zc1 BK184.out))
          refine bodyPost_ret (results_ct rfl _ _ gb184 31 #[.slice none 0 0] (0, 0) _ rfl (zp0 BK184.out) Try.underlying31 rfl (by kernel_rfl)) rfl ?_
          exact ⟨_, by first | rfl | (simp [errW_none, errW_some] <;> rfl) | (simp [*, errW_none, errW_some] <;> rfl), by first | exact Kd.R_nil _ _ _ _ _ | exact Kd.N_nil _ _ _ _ _ | exact Kd.V_nil _ _ _ _ _ | exact Kd.Q_nil _ _ _ _ _ | exact Kd.S_nil _ _ _ _ _, zb5 HB.out GE182.out GE183.out GE184.out GE188.out GE190.out⟩
        ·rw [if_neg c143] at H
         have c143b0 : (a1_0 == 2) = false := beq_eq_false_iff_ne.mpr c143
         have c143b1 : (a1_0 != 2) = true := bne_iff_ne.mpr c143
         by_cases c188 : a1_0 = 3
         ·rw [if_pos c188] at H
          have c188b0 : (a1_0 == 3) = true := beq_iff_eq.mpr c188
          have c188b1 : (a1_0 != 3) = false := bne_eq_false_iff_eq.mpr c188
          clear c188
          have HC189 := Aside0.mk H
          clear H
          go_upto_region 18 with (first | ((with_reducible refine gate_dst (N := 8) rfl ?_); refine box_event rfl (N := 8) rfl (cs := #[.slice none 0 0]) (t := 31) zrun ?_; intro gb190 hg w190 hbox hb; have BK190 := am (hbox); have GW190 := zge hg (zb4 HB.out GE182.out GE183.out GE184.out GE188.out); have GE190 := zge hg (zb4 HB.out GE182.out GE183.out GE184.out GE188.out); obtain ⟨NB182_190, NB190_182⟩ := zne hg BK182; obtain ⟨NB183_190, NB190_183⟩ := zne hg BK183; obtain ⟨NB184_190, NB190_184⟩ := zne hg BK184; obtain ⟨NB188_190, NB190_188⟩ := zne hg BK188; replace BK182 := zk hb BK182; replace BK183 := zk hb BK183; replace BK184 := zk hb BK184; replace BK188 := zk hb BK188; replace HB := zs4 hb HB GE182 GE183 GE184 GE188; clear hb hbox hg; obtain ⟨hnb191, hnc191⟩ := zn2 NB190_182; obtain ⟨hnb192, hnc192⟩ := zn2 NB190_183; obtain ⟨hnb193, hnc193⟩ := zn2 NB190_184; obtain ⟨hnb194, hnc194⟩ := zn2 NB190_188; obtain ⟨hcz195_0, hfz195_0⟩ := zc1 BK190.out; obtain ⟨hnb196, hnc196⟩ := zn2 NB183_182; obtain ⟨hnb197, hnc197⟩ := zn2 NB183_184; obtain ⟨hnb198, hnc198⟩ := zn2 NB183_188; obtain ⟨hcz199_0, hcz199_1, hcz199_2, hcz199_3, hfz199_0, hfz199_1, hfz199_2, hfz199_3⟩ := zc4 BK183.out))
          (try simp only [Act.put, List.setIfInBounds_toArray, List.set_cons_zero, List.set_cons_succ])
          go_cut [105] (fun v105 wc => ∃ (kq : Nat) (x105_188 : Bool), v105 = .bool x105_188 ∧ Aside0 (spec_DoAct.j2 kq x105_188 l0_0 a1_0 a1_1 a1_2 a1_3 x189000_59 x189001_59 x189002_59 = some (r1, r2)) ∧ Aside0 (kq ≤ kj59) ∧ Aside0 (wc.heap[gb182]? = some (.cells #[(.slice A0_0 l0_0.length c0_0)] 31 (0, 0))) ∧ Aside0 (wc.heap[gb183]? = some (.cells #[.int .i64 a1_0, .string a1_1, .string a1_2, .string a1_3] 35 (0, 0))) ∧ Aside0 (wc.heap[gb184]? = some (.cells #[(.slice none 0 0)] 31 (0, 0))) ∧ Aside0 (wc.heap[gb188]? = some (.cells #[.string x189000_59, .string x189001_59, .int .i64 x189002_59] 66 (0, 0))) ∧ Aside0 (wc.heap[gb190]? = some (.cells #[(.slice none 0 0)] 31 (0, 0))) ∧ Aside0 (Below w.heap.size w wc))
          case first =>
           have H := HC189.out
           clear HC189
           by_cases c200 : x189002_59 < (x189001_59.size : Int)
           ·rw [if_pos c200] at H
            have c200b0 : decide (x189002_59 < (x189001_59.size : Int)) = true := decide_eq_true c200
            have c200b1 : decide ((x189001_59.size : Int) ≤ x189002_59) = false := decide_eq_false (by omega)
            clear c200
            (first | rw [c200b0] | (simp only [i64_w, i32_w]; rw [c200b0]) | skip)
            have H' := Aside0.mk H
            clear H
            obtain ⟨hnb201, hnc201⟩ := zn2 NB188_182
            obtain ⟨hnb202, hnc202⟩ := zn2 NB188_183
            obtain ⟨hnb203, hnc203⟩ := zn2 NB188_184
            obtain ⟨hnb204, hnc204⟩ := zn2 NB188_190
            obtain ⟨hcz205_0, hcz205_1, hcz205_2, hfz205_0, hfz205_1, hfz205_2⟩ := zc3 BK188.out
            go_wp2
            go_meet
            case rel => exact ⟨_, (true), (by first | rfl | (simp; done) | (simp [*]; done)), H', ⟨by have := HJ2.out; have := HJ59.out; first | omega | exact Nat.le_refl _⟩, ⟨zf1 BK182.out NB182_190.out⟩, ⟨zf1 BK183.out NB183_190.out⟩, ⟨zf1 BK184.out NB184_190.out⟩, ⟨zf1 BK188.out NB188_190.out⟩, ⟨by (with_reducible repeat (first | refine blk_drewN ?_ _ | refine blk_drew ?_ | refine blk_alloc ?_ _)); refine blk_put (cs := #[.slice none 0 0]) ?_ 0 _ rfl; (with_reducible repeat (first | refine blk_drewN ?_ _ | refine blk_drew ?_ | refine blk_alloc ?_ _)); exact BK190.out⟩, ⟨zb5 HB.out GE182.out GE183.out GE184.out GE188.out GE190.out⟩⟩
           ·rw [if_neg c200] at H
            have c200b0 : decide (x189002_59 < (x189001_59.size : Int)) = false := decide_eq_false c200
            have c200b1 : decide ((x189001_59.size : Int) ≤ x189002_59) = true := decide_eq_true (by omega)
            clear c200
            (first | rw [c200b0] | (simp only [i64_w, i32_w]; rw [c200b0]) | skip)
            by_cases c206 : a1_3.toList = a1_1.toList
            ·rw [if_pos c206] at H
             have c206b0 : (a1_3.toList == a1_1.toList) = true := beq_iff_eq.mpr c206
             have c206b1 : (a1_3.toList != a1_1.toList) = false := bne_eq_false_iff_eq.mpr c206
             clear c206
             have H' := Aside0.mk H
             clear H
             obtain ⟨hnb207, hnc207⟩ := zn2 NB188_182
             obtain ⟨hnb208, hnc208⟩ := zn2 NB188_183
             obtain ⟨hnb209, hnc209⟩ := zn2 NB188_184
             obtain ⟨hnb210, hnc210⟩ := zn2 NB188_190
             obtain ⟨hcz211_0, hcz211_1, hcz211_2, hfz211_0, hfz211_1, hfz211_2⟩ := zc3 BK188.out
             obtain ⟨hnb212, hnc212⟩ := zn2 NB183_182
             obtain ⟨hnb213, hnc213⟩ := zn2 NB183_184
             obtain ⟨hnb214, hnc214⟩ := zn2 NB183_190
             obtain ⟨hcz215_0, hcz215_1, hcz215_2, hcz215_3, hfz215_0, hfz215_1, hfz215_2, hfz215_3⟩ := zc4 BK183.out
             go_wp2
             go_meet
             case rel => exact ⟨_, (true), (by first | rfl | (simp; done) | (simp [*]; done)), H', ⟨by have := HJ2.out; have := HJ59.out; first | omega | exact Nat.le_refl _⟩, ⟨zf1 BK182.out NB182_190.out⟩, ⟨zf1 BK183.out NB183_190.out⟩, ⟨zf1 BK184.out NB184_190.out⟩, ⟨zf1 BK188.out NB188_190.out⟩, ⟨by (with_reducible repeat (first | refine blk_drewN ?_ _ | refine blk_drew ?_ | refine blk_alloc ?_ _)); refine blk_put (cs := #[.slice none 0 0]) ?_ 0 _ rfl; (with_reducible repeat (first | refine blk_drewN ?_ _ | refine blk_drew ?_ | refine blk_alloc ?_ _)); exact BK190.out⟩, ⟨zb5 HB.out GE182.out GE183.out GE184.out GE188.out GE190.out⟩⟩
            ·rw [if_neg c206] at H
             have c206b0 : (a1_3.toList == a1_1.toList) = false := beq_eq_false_iff_ne.mpr c206
             have c206b1 : (a1_3.toList != a1_1.toList) = true := bne_iff_ne.mpr c206
             replace H := Option.bind_eq_some_iff.mp H
             obtain ⟨t199, A2160, H⟩ := H
             try dsimp only at H
             have A216 := Aside0.mk A2160
             clear A2160
             have H' := Aside0.mk H
             clear H
             obtain ⟨hnb217, hnc217⟩ := zn2 NB188_182
             obtain ⟨hnb218, hnc218⟩ := zn2 NB188_183
             obtain ⟨hnb219, hnc219⟩ := zn2 NB188_184
             obtain ⟨hnb220, hnc220⟩ := zn2 NB188_190
             obtain ⟨hcz221_0, hcz221_1, hcz221_2, hfz221_0, hfz221_1, hfz221_2⟩ := zc3 BK188.out
             obtain ⟨hnb222, hnc222⟩ := zn2 NB183_182
             obtain ⟨hnb223, hnc223⟩ := zn2 NB183_184
             obtain ⟨hnb224, hnc224⟩ := zn2 NB183_190
             obtain ⟨hcz225_0, hcz225_1, hcz225_2, hcz225_3, hfz225_0, hfz225_1, hfz225_2, hfz225_3⟩ := zc4 BK183.out
             go_wp2_with (first | (go_at_call 33; (with_reducible refine (spec_l03Name.calls a1_3 t199 _ A216.out).mono ?_); rintro e w' ⟨rfl, ⟨nd, rfl⟩⟩))
             go_meet
             case rel => exact ⟨_, (!t199), (by first | rfl | (simp; done) | (simp [*]; done)), H', ⟨by have := HJ2.out; have := HJ59.out; first | omega | exact Nat.le_refl _⟩, ⟨zf1 BK182.out NB182_190.out⟩, ⟨zf1 BK183.out NB183_190.out⟩, ⟨zf1 BK184.out NB184_190.out⟩, ⟨zf1 BK188.out NB188_190.out⟩, ⟨by (with_reducible repeat (first | refine blk_drewN ?_ _ | refine blk_drew ?_ | refine blk_alloc ?_ _)); refine blk_put (cs := #[.slice none 0 0]) ?_ 0 _ rfl; (with_reducible repeat (first | refine blk_drewN ?_ _ | refine blk_drew ?_ | refine blk_alloc ?_ _)); exact BK190.out⟩, ⟨zb5 HB.out GE182.out GE183.out GE184.out GE188.out GE190.out⟩⟩
          case rest =>
           clear HC189
           obtain ⟨kq, x105_188, rfl, HA, HJ188, BK182, BK183, BK184, BK188, BK190, HB⟩ := hcut
           cases kq with
           | zero => exact absurd HA.out (by simp [spec_DoAct.j2])
           | succ kj188 =>
            have H := HA.out
            clear HA
            simp only [spec_DoAct.j2] at H
            by_cases c226 : x105_188 = true
            ·subst c226
             have H1 : (some (([] : List (S66)), false)) = some (r1, r2) := by rw [if_pos rfl] at H; exact H
             clear H
             have H := H1
             clear H1
             simp only [Option.some.injEq, Prod.mk.injEq] at H
             obtain ⟨rfl, rfl⟩ := H
             obtain ⟨hnb227, hnc227⟩ := zn2 NB184_182
             obtain ⟨hnb228, hnc228⟩ := zn2 NB184_183
             obtain ⟨hnb229, hnc229⟩ := zn2 NB184_188
             obtain ⟨hnb230, hnc230⟩ := zn2 NB184_190
             obtain ⟨hcz231_0, hfz231_0⟩ := zc1 BK184.out
             go_wp2
             refine bodyPost_ret (results_ct rfl _ _ gb184 31 #[.slice none 0 0] (0, 0) _ rfl (zp0 BK184.out) Try.underlying31 rfl (by kernel_rfl)) rfl ?_
             exact ⟨_, by first | rfl | (simp [errW_none, errW_some] <;> rfl) | (simp [*, errW_none, errW_some] <;> rfl), by first | exact Kd.R_nil _ _ _ _ _ | exact Kd.N_nil _ _ _ _ _ | exact Kd.V_nil _ _ _ _ _ | exact Kd.Q_nil _ _ _ _ _ | exact Kd.S_nil _ _ _ _ _, zb5 HB.out GE182.out GE183.out GE184.out GE188.out GE190.out⟩
            ·replace c226 := Bool.eq_false_iff.mpr c226
             subst c226
             have H1 : ((spec_l03Without.f kj188 l0_0 a1_1).bind fun t200 => ((spec_l03Put.f kj188 t200 a1_3 x189001_59 x189002_59).bind fun t203 => ((spec_DiskOk.f kj188 t203).bind fun t206 => (if t206 = true then (some (t203, true)) else (some (([] : List (S66)), false)))))) = some (r1, r2) := by rw [if_neg (show ¬ (false = true) by decide)] at H; exact H
             clear H
             have H := H1
             clear H1
             replace H := Option.bind_eq_some_iff.mp H
             obtain ⟨t200, A2320, H⟩ := H
             try dsimp only at H
             have A232 := Aside0.mk A2320
             clear A2320
             replace H := Option.bind_eq_some_iff.mp H
             obtain ⟨t203, A2330, H⟩ := H
             try dsimp only at H
             have A233 := Aside0.mk A2330
             clear A2330
             replace H := Option.bind_eq_some_iff.mp H
             obtain ⟨t206, A2340, H⟩ := H
             try dsimp only at H
             have A234 := Aside0.mk A2340
             clear A2340
             have HD_ := Aside0.mk H
             clear H
             obtain ⟨hnb236, hnc236⟩ := zn2 NB183_182
             obtain ⟨hnb237, hnc237⟩ := zn2 NB183_184
             obtain ⟨hnb238, hnc238⟩ := zn2 NB183_188
             obtain ⟨hnb239, hnc239⟩ := zn2 NB183_190
             obtain ⟨hcz240_0, hcz240_1, hcz240_2, hcz240_3, hfz240_0, hfz240_1, hfz240_2, hfz240_3⟩ := zc4 BK183.out
             obtain ⟨hnb241, hnc241⟩ := zn2 NB188_182
             obtain ⟨hnb242, hnc242⟩ := zn2 NB188_184
             obtain ⟨hnb243, hnc243⟩ := zn2 NB188_190
             obtain ⟨hcz244_0, hcz244_1, hcz244_2, hfz244_0, hfz244_1, hfz244_2⟩ := zc3 BK188.out
             try go_wp2
             have n0_ : Aside0 ((wc.setCell ⟨gb188, 0, none⟩ (.string a1_3)).heap[gb182]? = some (.cells #[.slice A0_0 l0_0.length c0_0] 31 (0, 0))) := ⟨zf1 BK182.out NB182_188.out⟩
             have n1_ : Aside0 ((wc.setCell ⟨gb188, 0, none⟩ (.string a1_3)).heap[gb183]? = some (.cells #[.int .i64 a1_0, .string a1_1, .string a1_2, .string a1_3] 35 (0, 0))) := ⟨zf1 BK183.out NB183_188.out⟩
             have n2_ : Aside0 ((wc.setCell ⟨gb188, 0, none⟩ (.string a1_3)).heap[gb184]? = some (.cells #[.slice none 0 0] 31 (0, 0))) := ⟨zf1 BK184.out NB184_188.out⟩
             have n3_ : Aside0 ((wc.setCell ⟨gb188, 0, none⟩ (.string a1_3)).heap[gb188]? = some (.cells #[.string a1_3, .string x189001_59, .int .i64 x189002_59] 66 (0, 0))) := ⟨(zp0 BK188.out)⟩
             have n4_ : Aside0 ((wc.setCell ⟨gb188, 0, none⟩ (.string a1_3)).heap[gb190]? = some (.cells #[.slice none 0 0] 31 (0, 0))) := ⟨zf1 BK190.out NB190_188.out⟩
             have n5_ : Aside0 (Below w.heap.size w (wc.setCell ⟨gb188, 0, none⟩ (.string a1_3))) := ⟨zb5 HB.out GE182.out GE183.out GE184.out GE188.out GE190.out⟩
             generalize (wc.setCell ⟨gb188, 0, none⟩ (.string a1_3)) = w245 at n0_ n1_ n2_ n3_ n4_ n5_ ⊢
             have BK182 := n0_
             have BK183 := n1_
             have BK184 := n2_
             have BK188 := n3_
             have BK190 := n4_
             have HB := n5_
             clear n0_ n1_ n2_ n3_ n4_ n5_
             replace BK182 := zw BK182
             replace BK183 := zw BK183
             replace BK184 := zw BK184
             replace BK188 := zw BK188
             replace BK190 := zw BK190
             replace HB := am (below_drew1 HB.out)
             refine start_ (n := 7) (S := fun w' => w'.cell? ⟨gb182, 0, none⟩ = some (.slice A0_0 l0_0.length c0_0) ∧ w'.cell? ⟨gb183, 0, none⟩ = some (.int .i64 a1_0) ∧ w'.cell? ⟨gb183, 1, none⟩ = some (.string a1_1) ∧ w'.cell? ⟨gb183, 2, none⟩ = some (.string a1_2) ∧ w'.cell? ⟨gb183, 3, none⟩ = some (.string a1_3) ∧ w'.cell? ⟨gb188, 0, none⟩ = some (.string a1_3) ∧ w'.cell? ⟨gb188, 1, none⟩ = some (.string x189001_59) ∧ w'.cell? ⟨gb188, 2, none⟩ = some (.int .i64 x189002_59)) (ds := []) #[false, false, false, false, false, false, false] (by kernel_rfl) rfl rfl ⟨ct BK182.out 0, ct BK183.out 0, ct BK183.out 1, ct BK183.out 2, ct BK183.out 3, ct BK188.out 0, ct BK188.out 1, ct BK188.out 2⟩ (fun hHeld => ?_)
             generalize w245.drew = w246 at BK182 BK183 BK184 BK188 BK190 HB hHeld ⊢
             refine pure_ (i := 1) (N := some 111) (v := ?_) (a' := ?_) #[false, true, false, false, false, false, false] rfl rfl (by kernel_rfl) (fun _ _ _ h => h) (Or.inl ⟨by rfl, ?_⟩) ?_ ?_
             rotate_left
             ·intro w'
              go_simp
              with_reducible rfl
             rotate_left
             ·simp only [Act.put, List.setIfInBounds_toArray, List.set_cons_zero, List.set_cons_succ, i64_w, i32_w]
              rfl
             refine take_ (i := 0) (N := some 110) (v := ?_) (a' := ?_) #[true, true, false, false, false, false, false] rfl rfl (by kernel_rfl) (fun _ _ _ h => h) (Or.inl ⟨by rfl, ?_⟩) hHeld ?_ ?_
             rotate_left
             ·rintro w' ⟨s0, s1, s2, s3, s4, s5, s6, s7⟩
              go_simp
              with_reducible rfl
             rotate_left
             ·simp only [Act.put, List.setIfInBounds_toArray, List.set_cons_zero, List.set_cons_succ, i64_w, i32_w]
              rfl
             refine take_ (i := 2) (N := some 112) (v := ?_) (a' := ?_) #[true, true, true, false, false, false, false] rfl rfl (by kernel_rfl) (fun _ _ _ h => h) (Or.inl ⟨by rfl, ?_⟩) hHeld ?_ ?_
             rotate_left
             ·rintro w' ⟨s0, s1, s2, s3, s4, s5, s6, s7⟩
              go_simp
              with_reducible rfl
             rotate_left
             ·simp only [Act.put, List.setIfInBounds_toArray, List.set_cons_zero, List.set_cons_succ, i64_w, i32_w]
              rfl
             refine take_ (i := 4) (N := some 114) (v := ?_) (a' := ?_) #[true, true, true, false, true, false, false] rfl rfl (by kernel_rfl) (fun _ _ _ h => h) (Or.inl ⟨by rfl, ?_⟩) hHeld ?_ ?_
             rotate_left
             ·rintro w' ⟨s0, s1, s2, s3, s4, s5, s6, s7⟩
              go_simp
              with_reducible rfl
             rotate_left
             ·simp only [Act.put, List.setIfInBounds_toArray, List.set_cons_zero, List.set_cons_succ, i64_w, i32_w]
              rfl
             refine one_ (i := 3) (N := some 113) #[true, true, true, true, true, false, false] rfl rfl (by kernel_rfl) (by decide) (fun K hK => ?_)
             refine goes_ Try.func36 (by kernel_rfl) rfl #[.agg #[.slice A0_0 l0_0.length c0_0], .string a1_1] (by rfl) rfl rfl zr ?_
             with_reducible refine (spec_l03Without.calls kj188 _ _ l0_0 a1_1 t200 _ ?side1 ?side2 A232.out).mono ?_
             (case side1 => repeat (first | exact (Kd.C_below HR0_0.out HB.out) | (with_reducible refine Kd.C_alloc ?_ _) | (with_reducible refine Kd.C_drewN ?_ _) | (with_reducible refine Kd.C_drew ?_)))
             (case side2 => exact HC0_0.out)
             rintro e w247 ⟨v201, rfl, ho0, hb⟩
             refine ⟨_, rfl, ?_⟩
             have HO202 := am (Kd.R_lower (Kd.R_newB ho0 (g := gb188) (o := .cells #[.string a1_3, .string x189001_59, .int .i64 x189002_59] 66 (0, 0)) (kx BK188.out)) (below_size (zb5 HB.out GE182.out GE183.out GE184.out GE188.out GE190.out)))
             replace BK182 := zk hb BK182
             replace BK183 := zk hb BK183
             replace BK184 := zk hb BK184
             replace BK188 := zk hb BK188
             replace BK190 := zk hb BK190
             replace HB := zs5 hb HB GE182 GE183 GE184 GE188 GE190
             obtain ⟨Ao248, co248, eo248⟩ := Kd.R_slice HO202.out
             (first | subst eo248 | (injection eo248 with f1_ f2_ f3_; have f4_ := f1_.symm; have f5_ := f3_.symm; clear f1_ f2_ f3_; subst f4_; subst f5_))
             refine hK.out _ _ ⟨ct BK182.out 0, ct BK183.out 0, ct BK183.out 1, ct BK183.out 2, ct BK183.out 3, ct BK188.out 0, ct BK188.out 1, ct BK188.out 2⟩ (fun hHeld => ?_)
             clear hK K
             refine znm 113 ?_
             refine one_ (i := 5) (N := some 115) #[true, true, true, true, true, true, false] rfl rfl (by kernel_rfl) (by decide) (fun K hK => ?_)
             refine goes_ Try.func35 (by kernel_rfl) rfl #[.agg #[.slice Ao248 t200.length co248], .agg #[.string a1_3, .string x189001_59, .int .i64 x189002_59]] (by rfl) rfl rfl zr ?_
             with_reducible refine (spec_l03Put.calls kj188 _ _ t200 a1_3 x189001_59 x189002_59 t203 _ ?side1 ?side2 A233.out).mono ?_
             (case side1 => repeat (first | exact (Kd.R_reads' HO202.out).2.2 | (with_reducible refine Kd.C_alloc ?_ _) | (with_reducible refine Kd.C_drewN ?_ _) | (with_reducible refine Kd.C_drew ?_)))
             (case side2 => exact (Kd.R_reads' HO202.out).2.1)
             rintro e w249 ⟨v204, rfl, ho0, hb⟩
             refine ⟨_, rfl, ?_⟩
             have HO205 := am (Kd.R_lower (Kd.R_newB (Kd.R_new' ho0 (Kd.R_lt (rx HO202.out))) (g := gb188) (o := .cells #[.string a1_3, .string x189001_59, .int .i64 x189002_59] 66 (0, 0)) (kx BK188.out)) (below_size (zb5 HB.out GE182.out GE183.out GE184.out GE188.out GE190.out)))
             replace HO202 := am (Kd.R_elder' (rx HO202.out) (Kd.R_base ho0) hb)
             replace BK182 := zk hb BK182
             replace BK183 := zk hb BK183
             replace BK184 := zk hb BK184
             replace BK188 := zk hb BK188
             replace BK190 := zk hb BK190
             replace HB := zs5 hb HB GE182 GE183 GE184 GE188 GE190
             obtain ⟨Ao250, co250, eo250⟩ := Kd.R_slice HO205.out
             (first | subst eo250 | (injection eo250 with f1_ f2_ f3_; have f4_ := f1_.symm; have f5_ := f3_.symm; clear f1_ f2_ f3_; subst f4_; subst f5_))
             refine hK.out _ _ ⟨ct BK182.out 0, ct BK183.out 0, ct BK183.out 1, ct BK183.out 2, ct BK183.out 3, ct BK188.out 0, ct BK188.out 1, ct BK188.out 2⟩ (fun hHeld => ?_)
             clear hK K
             refine znm 115 ?_
             refine one_ (i := 6) (N := none) #[true, true, true, true, true, true, true] rfl rfl (by kernel_rfl) (by decide) (fun K hK => ?_)
             have hs251 : w249.cell? ⟨gb190, 0, none⟩ = some (.slice none 0 0) := ct BK190.out 0
             have hfs251 := blk_frozen BK190.out 0
             have hns251_0 := NB182_190.out
             have hns251_1 := NB183_190.out
             have hns251_2 := NB184_190.out
             have hns251_3 := NB188_190.out
             have hms251_0 := NB190_182.out
             have hms251_1 := NB190_183.out
             have hms251_2 := NB190_184.out
             have hms251_3 := NB190_188.out
             refine skip_ (w1 := ?_) (by rfl) rfl ?_ ?_
             rotate_left
             ·go_simp
              rfl
             refine hK.out _ _ ⟨((cell_far (p := ⟨gb190, _, none⟩) NB182_190.out _).trans (hHeld.1)), ((cell_far (p := ⟨gb190, _, none⟩) NB183_190.out _).trans (hHeld.2.1)), ((cell_far (p := ⟨gb190, _, none⟩) NB183_190.out _).trans (hHeld.2.2.1)), ((cell_far (p := ⟨gb190, _, none⟩) NB183_190.out _).trans (hHeld.2.2.2.1)), ((cell_far (p := ⟨gb190, _, none⟩) NB183_190.out _).trans (hHeld.2.2.2.2.1)), ((cell_far (p := ⟨gb190, _, none⟩) NB188_190.out _).trans (hHeld.2.2.2.2.2.1)), ((cell_far (p := ⟨gb190, _, none⟩) NB188_190.out _).trans (hHeld.2.2.2.2.2.2.1)), ((cell_far (p := ⟨gb190, _, none⟩) NB188_190.out _).trans (hHeld.2.2.2.2.2.2.2))⟩ (fun hHeld => ?_)
             clear hK K
             refine done_ (by kernel_rfl) ?_
             obtain ⟨hnb252, hnc252⟩ := zn2 NB190_182
             obtain ⟨hnb253, hnc253⟩ := zn2 NB190_184
             obtain ⟨hcz254_0, hfz254_0⟩ := zc1 BK190.out
             have H := HD_.out
             clear HD_
             by_cases c235 : t206 = true
             ·subst c235
              have H1 : (some (t203, true)) = some (r1, r2) := by rw [if_pos rfl] at H; exact H
              clear H
              have H := H1
              clear H1
              simp only [Option.some.injEq, Prod.mk.injEq] at H
              obtain ⟨rfl, rfl⟩ := H
              try go_wp2_with (first | ((with_reducible refine gate_callee (f := 32) rfl ?_); refine goesL_ (some 125) rfl rfl Try.func32 (by kernel_rfl) rfl #[.agg #[.slice Ao250 t203.length co250]] rfl zr ?_; (with_reducible refine (spec_DiskOk.calls kj188 _ _ t203 true _ ?side1 ?side2 A234.out).mono ?_); (case side1 => refine (Kd.R_reads' (e := 66) (base := w.heap.size) (ok := fun k_ => ((True ∧ some k_ ≠ (.slice Ao248 t200.length co248 : Value).ownBlock) ∧ k_ ≠ gb188)) (n := t203.length) (c := co250) ?_).2.2; exact (rx ((zrf 0 (.slice Ao250 t203.length co250) HO205 BK190)))); (case side2 => exact (Kd.R_reads' HO205.out).2.1); rintro e w255 ⟨rfl, hb⟩; refine ⟨_, rfl, ?_⟩; replace HO202 := am (Kd.R_below (rx ((zrf 0 (.slice Ao250 t203.length co250) HO202 BK190))) hb); replace HO205 := am (Kd.R_below (rx ((zrf 0 (.slice Ao250 t203.length co250) HO205 BK190))) hb); replace BK182 := zh1 hb BK182 NB182_190; replace BK183 := zh1 hb BK183 NB183_190; replace BK184 := zh1 hb BK184 NB184_190; replace BK188 := zh1 hb BK188 NB188_190; replace BK190 := am (blk_below (g := gb190) (o := .cells #[.slice Ao250 t203.length co250] 31 (0, 0)) (zp0 BK190.out) hb); replace HB := zs5 hb HB GE182 GE183 GE184 GE188 GE190; clear hb; obtain ⟨hcz256_0, hfz256_0⟩ := zc1 BK190.out; obtain ⟨hnb257, hnc257⟩ := zn2 NB184_182; obtain ⟨hcz258_0, hfz258_0⟩ := zc1 BK184.out))
              refine bodyPost_ret (results_ct rfl _ _ gb184 31 #[.slice Ao250 t203.length co250] (0, 0) _ rfl (zp0 BK184.out) Try.underlying31 rfl (by kernel_rfl)) rfl ?_
              exact ⟨_, by first | rfl | (simp [errW_none, errW_some] <;> rfl) | (simp [*, errW_none, errW_some] <;> rfl), rx (Kd.R_mono (Kd.R_far (p := ⟨gb184, 0, none⟩) (Kd.R_types HO205.out BK184.out (by decide)) (fun _ hk => hk.2) (.slice Ao250 t203.length co250)) (fun _ hk => trivial)), zb5 HB.out GE182.out GE183.out GE184.out GE188.out GE190.out⟩
             ·replace c235 := Bool.eq_false_iff.mpr c235
              subst c235
              have H1 : (some (([] : List (S66)), false)) = some (r1, r2) := by rw [if_neg (show ¬ (false = true) by decide)] at H; exact H
              clear H
              have H := H1
              clear H1
              simp only [Option.some.injEq, Prod.mk.injEq] at H
              obtain ⟨rfl, rfl⟩ := H
              try go_wp2_with (first | ((with_reducible refine gate_callee (f := 32) rfl ?_); refine goesL_ (some 125) rfl rfl Try.func32 (by kernel_rfl) rfl #[.agg #[.slice Ao250 t203.length co250]] rfl zr ?_; (with_reducible refine (spec_DiskOk.calls kj188 _ _ t203 false _ ?side1 ?side2 A234.out).mono ?_); (case side1 => refine (Kd.R_reads' (e := 66) (base := w.heap.size) (ok := fun k_ => ((True ∧ some k_ ≠ (.slice Ao248 t200.length co248 : Value).ownBlock) ∧ k_ ≠ gb188)) (n := t203.length) (c := co250) ?_).2.2; exact (rx ((zrf 0 (.slice Ao250 t203.length co250) HO205 BK190)))); (case side2 => exact (Kd.R_reads' HO205.out).2.1); rintro e w278 ⟨rfl, hb⟩; refine ⟨_, rfl, ?_⟩; replace HO202 := am (Kd.R_below (rx ((zrf 0 (.slice Ao250 t203.length co250) HO202 BK190))) hb); replace HO205 := am (Kd.R_below (rx ((zrf 0 (.slice Ao250 t203.length co250) HO205 BK190))) hb); replace BK182 := zh1 hb BK182 NB182_190; replace BK183 := zh1 hb BK183 NB183_190; replace BK184 := zh1 hb BK184 NB184_190; replace BK188 := zh1 hb BK188 NB188_190; replace BK190 := am (blk_below (g := gb190) (o := .cells #[.slice Ao250 t203.length co250] 31 (0, 0)) (zp0 BK190.out) hb); replace HB := zs5 hb HB GE182 GE183 GE184 GE188 GE190; clear hb; obtain ⟨hnb279, hnc279⟩ := zn2 NB184_182; obtain ⟨hcz280_0, hfz280_0⟩ := zc1 BK184.out))
              refine bodyPost_ret (results_ct rfl _ _ gb184 31 #[.slice none 0 0] (0, 0) _ rfl (zp0 BK184.out) Try.underlying31 rfl (by kernel_rfl)) rfl ?_
              exact ⟨_, by first | rfl | (simp [errW_none, errW_some] <;> rfl) | (simp [*, errW_none, errW_some] <;> rfl), by first | exact Kd.R_nil _ _ _ _ _ | exact Kd.N_nil _ _ _ _ _ | exact Kd.V_nil _ _ _ _ _ | exact Kd.Q_nil _ _ _ _ _ | exact Kd.S_nil _ _ _ _ _, zb5 HB.out GE182.out GE183.out GE184.out GE188.out GE190.out⟩
         ·rw [if_neg c188] at H
          have c188b0 : (a1_0 == 3) = false := beq_eq_false_iff_ne.mpr c188
          have c188b1 : (a1_0 != 3) = true := bne_iff_ne.mpr c188
          by_cases c281 : a1_0 = 4
          ·rw [if_pos c281] at H
           have c281b0 : (a1_0 == 4) = true := beq_iff_eq.mpr c281
           have c281b1 : (a1_0 != 4) = false := bne_eq_false_iff_eq.mpr c281
           clear c281
           replace H := Option.bind_eq_some_iff.mp H
           obtain ⟨t207, A2820, H⟩ := H
           try dsimp only at H
           have A282 := Aside0.mk A2820
           clear A2820
           replace H := Option.bind_eq_some_iff.mp H
           obtain ⟨t210, A2830, H⟩ := H
           try dsimp only at H
           have A283 := Aside0.mk A2830
           clear A2830
           by_cases c284 : t210 = true
           ·subst c284
            have H1 : (some (t207, true)) = some (r1, r2) := by rw [if_pos rfl] at H; exact H
            clear H
            have H := H1
            clear H1
            simp only [Option.some.injEq, Prod.mk.injEq] at H
            obtain ⟨rfl, rfl⟩ := H
            go_wp2_with (first | ((with_reducible refine gate_dst (N := 8) rfl ?_); refine box_event rfl (N := 8) rfl (cs := #[.slice none 0 0]) (t := 31) zrun ?_; intro gb190 hg w285 hbox hb; have BK190 := am (hbox); have GW190 := zge hg (zb4 HB.out GE182.out GE183.out GE184.out GE188.out); have GE190 := zge hg (zb4 HB.out GE182.out GE183.out GE184.out GE188.out); obtain ⟨NB182_190, NB190_182⟩ := zne hg BK182; obtain ⟨NB183_190, NB190_183⟩ := zne hg BK183; obtain ⟨NB184_190, NB190_184⟩ := zne hg BK184; obtain ⟨NB188_190, NB190_188⟩ := zne hg BK188; replace BK182 := zk hb BK182; replace BK183 := zk hb BK183; replace BK184 := zk hb BK184; replace BK188 := zk hb BK188; replace HB := zs4 hb HB GE182 GE183 GE184 GE188; clear hb hbox hg; obtain ⟨hnb286, hnc286⟩ := zn2 NB190_182; obtain ⟨hnb287, hnc287⟩ := zn2 NB190_183; obtain ⟨hnb288, hnc288⟩ := zn2 NB190_184; obtain ⟨hnb289, hnc289⟩ := zn2 NB190_188; obtain ⟨hcz290_0, hfz290_0⟩ := zc1 BK190.out; obtain ⟨hnb291, hnc291⟩ := zn2 NB183_182; obtain ⟨hnb292, hnc292⟩ := zn2 NB183_184; obtain ⟨hnb293, hnc293⟩ := zn2 NB183_188; obtain ⟨hcz294_0, hcz294_1, hcz294_2, hcz294_3, hfz294_0, hfz294_1, hfz294_2, hfz294_3⟩ := zc4 BK183.out; obtain ⟨hnb295, hnc295⟩ := zn2 NB182_184; obtain ⟨hnb296, hnc296⟩ := zn2 NB182_188; obtain ⟨hcz297_0, hfz297_0⟩ := zc1 BK182.out) | ((with_reducible refine gate_callee (f := 36) rfl ?_); refine goesL_ (some 123) rfl rfl Try.func36 (by kernel_rfl) rfl #[.agg #[.slice A0_0 l0_0.length c0_0], .string a1_1] rfl zr ?_; (with_reducible refine (spec_l03Without.calls kj59 _ _ l0_0 a1_1 t207 _ ?side1 ?side2 A282.out).mono ?_); (case side1 => exact Kd.C_below HR0_0.out (zb5 HB.out GE182.out GE183.out GE184.out GE188.out GE190.out)); (case side2 => exact HC0_0.out); rintro e w298 ⟨v208, rfl, ho0, hb⟩; refine ⟨_, rfl, ?_⟩; have HO209 := am (Kd.R_lower (Kd.R_newB ho0 (g := gb188) (o := .cells #[.string x189000_59, .string x189001_59, .int .i64 x189002_59] 66 (0, 0)) (zf1 BK188.out NB188_190.out)) (below_size (zb5 HB.out GE182.out GE183.out GE184.out GE188.out GE190.out))); replace BK182 := zh1 hb BK182 NB182_190; replace BK183 := zh1 hb BK183 NB183_190; replace BK184 := zh1 hb BK184 NB184_190; replace BK188 := zh1 hb BK188 NB188_190; replace BK190 := am (blk_below (g := gb190) (o := .cells #[.slice none 0 0] 31 (0, 0)) (zp0 BK190.out) hb); replace HB := zs5 hb HB GE182 GE183 GE184 GE188 GE190; clear hb ho0; obtain ⟨Ao299, co299, eo299⟩ := Kd.R_slice HO209.out; subst eo299; obtain ⟨hcz300_0, hfz300_0⟩ := zc1 BK190.out) | ((with_reducible refine gate_callee (f := 32) rfl ?_); refine goesL_ (some 125) rfl rfl Try.func32 (by kernel_rfl) rfl #[.agg #[.slice Ao299 t207.length co299]] rfl zr ?_; (with_reducible refine (spec_DiskOk.calls kj59 _ _ t207 true _ ?side1 ?side2 A283.out).mono ?_); (case side1 => refine (Kd.R_reads' (e := 66) (base := w.heap.size) (ok := fun k_ => (True ∧ k_ ≠ gb188)) (n := t207.length) (c := co299) ?_).2.2; exact (rx ((zrf 0 (.slice Ao299 t207.length co299) HO209 BK190)))); (case side2 => exact (Kd.R_reads' HO209.out).2.1); rintro e w301 ⟨rfl, hb⟩; refine ⟨_, rfl, ?_⟩; replace HO209 := am (Kd.R_below (rx ((zrf 0 (.slice Ao299 t207.length co299) HO209 BK190))) hb); replace BK182 := zh1 hb BK182 NB182_190; replace BK183 := zh1 hb BK183 NB183_190; replace BK184 := zh1 hb BK184 NB184_190; replace BK188 := zh1 hb BK188 NB188_190; replace BK190 := am (blk_below (g := gb190) (o := .cells #[.slice Ao299 t207.length co299] 31 (0, 0)) (zp0 BK190.out) hb); replace HB := zs5 hb HB GE182 GE183 GE184 GE188 GE190; clear hb; obtain ⟨hcz302_0, hfz302_0⟩ := zc1 BK190.out; obtain ⟨hnb303, hnc303⟩ := zn2 NB184_188; obtain ⟨hcz304_0, hfz304_0⟩ := zc1 BK184.out))
            refine bodyPost_ret (results_ct rfl _ _ gb184 31 #[.slice Ao299 t207.length co299] (0, 0) _ rfl (zp0 BK184.out) Try.underlying31 rfl (by kernel_rfl)) rfl ?_
            exact ⟨_, by first | rfl | (simp [errW_none, errW_some] <;> rfl) | (simp [*, errW_none, errW_some] <;> rfl), rx (Kd.R_mono (Kd.R_far (p := ⟨gb184, 0, none⟩) (Kd.R_types HO209.out BK184.out (by decide)) (fun _ hk => hk.2) (.slice Ao299 t207.length co299)) (fun _ hk => trivial)), zb5 HB.out GE182.out GE183.out GE184.out GE188.out GE190.out⟩
           ·replace c284 := Bool.eq_false_iff.mpr c284
            subst c284
            have H1 : (some (([] : List (S66)), false)) = some (r1, r2) := by rw [if_neg (show ¬ (false = true) by decide)] at H; exact H
            clear H
            have H := H1
            clear H1
            simp only [Option.some.injEq, Prod.mk.injEq] at H
            obtain ⟨rfl, rfl⟩ := H
            go_wp2_with (first | ((with_reducible refine gate_dst (N := 8) rfl ?_); refine box_event rfl (N := 8) rfl (cs := #[.slice none 0 0]) (t := 31) zrun ?_; intro gb190 hg w305 hbox hb; have BK190 := am (hbox); have GW190 := zge hg (zb4 HB.out GE182.out GE183.out GE184.out GE188.out); have GE190 := zge hg (zb4 HB.out GE182.out GE183.out GE184.out GE188.out); obtain ⟨NB182_190, NB190_182⟩ := zne hg BK182; obtain ⟨NB183_190, NB190_183⟩ := zne hg BK183; obtain ⟨NB184_190, NB190_184⟩ := zne hg BK184; obtain ⟨NB188_190, NB190_188⟩ := zne hg BK188; replace BK182 := zk hb BK182; replace BK183 := zk hb BK183; replace BK184 := zk hb BK184; replace BK188 := zk hb BK188; replace HB := zs4 hb HB GE182 GE183 GE184 GE188; clear hb hbox hg; obtain ⟨hnb306, hnc306⟩ := zn2 NB190_182; obtain ⟨hnb307, hnc307⟩ := zn2 NB190_183; obtain ⟨hnb308, hnc308⟩ := zn2 NB190_184; obtain ⟨hnb309, hnc309⟩ := zn2 NB190_188; obtain ⟨hcz310_0, hfz310_0⟩ := zc1 BK190.out; obtain ⟨hnb311, hnc311⟩ := zn2 NB183_182; obtain ⟨hnb312, hnc312⟩ := zn2 NB183_184; obtain ⟨hnb313, hnc313⟩ := zn2 NB183_188; obtain ⟨hcz314_0, hcz314_1, hcz314_2, hcz314_3, hfz314_0, hfz314_1, hfz314_2, hfz314_3⟩ := zc4 BK183.out; obtain ⟨hnb315, hnc315⟩ := zn2 NB182_184; obtain ⟨hnb316, hnc316⟩ := zn2 NB182_188; obtain ⟨hcz317_0, hfz317_0⟩ := zc1 BK182.out) | ((with_reducible refine gate_callee (f := 36) rfl ?_); refine goesL_ (some 123) rfl rfl Try.func36 (by kernel_rfl) rfl #[.agg #[.slice A0_0 l0_0.length c0_0], .string a1_1] rfl zr ?_; (with_reducible refine (spec_l03Without.calls kj59 _ _ l0_0 a1_1 t207 _ ?side1 ?side2 A282.out).mono ?_); (case side1 => exact Kd.C_below HR0_0.out (zb5 HB.out GE182.out GE183.out GE184.out GE188.out GE190.out)); (case side2 => exact HC0_0.out); rintro e w318 ⟨v208, rfl, ho0, hb⟩; refine ⟨_, rfl, ?_⟩; have HO209 := am (Kd.R_lower (Kd.R_newB ho0 (g := gb188) (o := .cells #[.string x189000_59, .string x189001_59, .int .i64 x189002_59] 66 (0, 0)) (zf1 BK188.out NB188_190.out)) (below_size (zb5 HB.out GE182.out GE183.out GE184.out GE188.out GE190.out))); replace BK182 := zh1 hb BK182 NB182_190; replace BK183 := zh1 hb BK183 NB183_190; replace BK184 := zh1 hb BK184 NB184_190; replace BK188 := zh1 hb BK188 NB188_190; replace BK190 := am (blk_below (g := gb190) (o := .cells #[.slice none 0 0] 31 (0, 0)) (zp0 BK190.out) hb); replace HB := zs5 hb HB GE182 GE183 GE184 GE188 GE190; clear hb ho0; obtain ⟨Ao319, co319, eo319⟩ := Kd.R_slice HO209.out; subst eo319; obtain ⟨hcz320_0, hfz320_0⟩ := zc1 BK190.out) | ((with_reducible refine gate_callee (f := 32) rfl ?_); refine goesL_ (some 125) rfl rfl Try.func32 (by kernel_rfl) rfl #[.agg #[.slice Ao319 t207.length co319]] rfl zr ?_; (with_reducible refine (spec_DiskOk.calls kj59 _ _ t207 false _ ?side1 ?side2 A283.out).mono ?_); (case side1 => refine (Kd.R_reads' (e := 66) (base := w.heap.size) (ok := fun k_ => (True ∧ k_ ≠ gb188)) (n := t207.length) (c := co319) ?_).2.2; exact (rx ((zrf 0 (.slice Ao319 t207.length co319) HO209 BK190)))); (case side2 => exact (Kd.R_reads' HO209.out).2.1); rintro e w321 ⟨rfl, hb⟩; refine ⟨_, rfl, ?_⟩; replace HO209 := am (Kd.R_below (rx ((zrf 0 (.slice Ao319 t207.length co319) HO209 BK190))) hb); replace BK182 := zh1 hb BK182 NB182_190; replace BK183 := zh1 hb BK183 NB183_190; replace BK184 := zh1 hb BK184 NB184_190; replace BK188 := zh1 hb BK188 NB188_190; replace BK190 := am (blk_below (g := gb190) (o := .cells #[.slice Ao319 t207.length co319] 31 (0, 0)) (zp0 BK190.out) hb); replace HB := zs5 hb HB GE182 GE183 GE184 GE188 GE190; clear hb; obtain ⟨hnb322, hnc322⟩ := zn2 NB184_188; obtain ⟨hcz323_0, hfz323_0⟩ := zc1 BK184.out))
            refine bodyPost_ret (results_ct rfl _ _ gb184 31 #[.slice none 0 0] (0, 0) _ rfl (zp0 BK184.out) Try.underlying31 rfl (by kernel_rfl)) rfl ?_
            exact ⟨_, by first | rfl | (simp [errW_none, errW_some] <;> rfl) | (simp [*, errW_none, errW_some] <;> rfl), by first | exact Kd.R_nil _ _ _ _ _ | exact Kd.N_nil _ _ _ _ _ | exact Kd.V_nil _ _ _ _ _ | exact Kd.Q_nil _ _ _ _ _ | exact Kd.S_nil _ _ _ _ _, zb5 HB.out GE182.out GE183.out GE184.out GE188.out GE190.out⟩
          ·rw [if_neg c281] at H
           have c281b0 : (a1_0 == 4) = false := beq_eq_false_iff_ne.mpr c281
           have c281b1 : (a1_0 != 4) = true := bne_iff_ne.mpr c281
           simp only [Option.some.injEq, Prod.mk.injEq] at H
           obtain ⟨rfl, rfl⟩ := H
           go_wp2_with (first | ((with_reducible refine gate_dst (N := 8) rfl ?_); refine box_event rfl (N := 8) rfl (cs := #[.slice none 0 0]) (t := 31) zrun ?_; intro gb190 hg w324 hbox hb; have BK190 := am (hbox); have GW190 := zge hg (zb4 HB.out GE182.out GE183.out GE184.out GE188.out); have GE190 := zge hg (zb4 HB.out GE182.out GE183.out GE184.out GE188.out); obtain ⟨NB182_190, NB190_182⟩ := zne hg BK182; obtain ⟨NB183_190, NB190_183⟩ := zne hg BK183; obtain ⟨NB184_190, NB190_184⟩ := zne hg BK184; obtain ⟨NB188_190, NB190_188⟩ := zne hg BK188; replace BK182 := zk hb BK182; replace BK183 := zk hb BK183; replace BK184 := zk hb BK184; replace BK188 := zk hb BK188; replace HB := zs4 hb HB GE182 GE183 GE184 GE188; clear hb hbox hg; obtain ⟨hnb325, hnc325⟩ := zn2 NB190_182; obtain ⟨hnb326, hnc326⟩ := zn2 NB190_183; obtain ⟨hnb327, hnc327⟩ := zn2 NB190_184; obtain ⟨hnb328, hnc328⟩ := zn2 NB190_188; obtain ⟨hcz329_0, hfz329_0⟩ := zc1 BK190.out; obtain ⟨hnb330, hnc330⟩ := zn2 NB183_182; obtain ⟨hnb331, hnc331⟩ := zn2 NB183_184; obtain ⟨hnb332, hnc332⟩ := zn2 NB183_188; obtain ⟨hcz333_0, hcz333_1, hcz333_2, hcz333_3, hfz333_0, hfz333_1, hfz333_2, hfz333_3⟩ := zc4 BK183.out; obtain ⟨hnb334, hnc334⟩ := zn2 NB184_182; obtain ⟨hnb335, hnc335⟩ := zn2 NB184_188; obtain ⟨hcz336_0, hfz336_0⟩ := zc1 BK184.out))
           refine bodyPost_ret (results_ct rfl _ _ gb184 31 #[.slice none 0 0] (0, 0) _ rfl (zp1 BK184.out NB184_190.out) Try.underlying31 rfl (by kernel_rfl)) rfl ?_
           exact ⟨_, by first | rfl | (simp [errW_none, errW_some] <;> rfl) | (simp [*, errW_none, errW_some] <;> rfl), by first | exact Kd.R_nil _ _ _ _ _ | exact Kd.N_nil _ _ _ _ _ | exact Kd.V_nil _ _ _ _ _ | exact Kd.Q_nil _ _ _ _ _ | exact Kd.S_nil _ _ _ _ _, zb5 HB.out GE182.out GE183.out GE184.out GE188.out GE190.out⟩

end Go.Proofs.Ytklbkkoojkmjbaa.QFnActs
