/- Written by the kit's print.py, called by our own print2.sh with one import more; not by print.sh. -/
import Derived.Test.YtklbkkoojkmjbaaQFnExactDoActsx0
import Derived.Test.YtklbkkoojkmjbaaQFnExactDoActsx4
import Derived.Test.YtklbkkoojkmjbaaQFnExactDoActsx5
import Derived.Test.YtklbkkoojkmjbaaQFnExactDoActsx6
namespace Go.Proofs.Ytklbkkoojkmjbaa.QFnExactDoActs
open Go.RowKit Go.Proofs.YtklbkkoojkmjbaaW.PrintWords Go.Proofs.YtklbkkoojkmjbaaW.PrintLast Go.Proofs.YtklbkkoojkmjbaaW.PrintMore
attribute [local go_sem] max2_int min2_int max_two min_two max_three min_three max_four min_four   -- for this text's walks alone
open Go.Proofs.Ytklbkkoojkmjbaa.Short
set_option linter.unusedVariables false
set_option linter.unusedSimpArgs false

/-! ### spec_DoAct: function 9 -/
mutual
def spec_DoAct.j0 : Nat → Bool → List (S66) → Int → ByteArray → ByteArray → ByteArray → Option ((List (S66)) × Bool)
 | 0, _, _, _, _, _, _ => none
 | k + 1, x37, x181000, x182000, x182001, x182002, x182003 => if x37 = true then (some (([] : List (S66)), false)) else ((spec_l03At.f k x181000 x182001).bind fun t185 => (if t185 ≥ 0 then (if 0 ≤ t185 then (if t185 < (x181000.length : Int) then (spec_DoAct.j1 k t185 x181000 x182000 x182001 x182002 x182003 ((rd_T66 x181000 t185).f0) ((rd_T66 x181000 t185).f1) ((rd_T66 x181000 t185).f2)) else (none)) else (none)) else (spec_DoAct.j1 k t185 x181000 x182000 x182001 x182002 x182003 x182001 (⟨#[]⟩ : ByteArray) 0)))
def spec_DoAct.j1 : Nat → Int → List (S66) → Int → ByteArray → ByteArray → ByteArray → ByteArray → ByteArray → Int → Option ((List (S66)) × Bool)
 | 0, _, _, _, _, _, _, _, _, _ => none
 | k + 1, x6, x181000, x182000, x182001, x182002, x182003, x187000, x187001, x187002 => if x182000 = 1 then (if x187001.size + x182002.size ≤ 9223372036854775807 then ((spec_l03Put.f k x181000 x187000 (x187001 ++ x182002) x187002).bind fun t189 => ((spec_DiskOk.f k t189).bind fun t192 => (if t192 = true then (some (t189, true)) else (some (([] : List (S66)), false))))) else (none)) else (if x6 < 0 then (some (([] : List (S66)), false)) else (if x182000 = 2 then ((spec_l03Put.f k x181000 x187000 x187001 (x187001.size : Int)).bind fun t193 => ((spec_DiskOk.f k t193).bind fun t196 => (if t196 = true then (some (t193, true)) else (some (([] : List (S66)), false))))) else (if x182000 = 3 then (if x187002 < (x187001.size : Int) then (spec_DoAct.j2 k true x181000 x182000 x182001 x182002 x182003 x187000 x187001 x187002) else (if x182003.toList = x182001.toList then (spec_DoAct.j2 k true x181000 x182000 x182001 x182002 x182003 x187000 x187001 x187002) else ((spec_l03Name.f x182003).bind fun t197 => (spec_DoAct.j2 k (!t197) x181000 x182000 x182001 x182002 x182003 x187000 x187001 x187002)))) else (if x182000 = 4 then ((spec_l03Without.f k x181000 x182001).bind fun t205 => ((spec_DiskOk.f k t205).bind fun t208 => (if t208 = true then (some (t205, true)) else (some (([] : List (S66)), false))))) else (some (([] : List (S66)), false))))))
def spec_DoAct.j2 : Nat → Bool → List (S66) → Int → ByteArray → ByteArray → ByteArray → ByteArray → ByteArray → Int → Option ((List (S66)) × Bool)
 | 0, _, _, _, _, _, _, _, _, _ => none
 | k + 1, x105, x181000, x182000, x182001, x182002, x182003, x187000, x187001, x187002 => if x105 = true then (some (([] : List (S66)), false)) else ((spec_l03Without.f k x181000 x182001).bind fun t198 => ((spec_l03Put.f k t198 x182003 x187001 x187002).bind fun t201 => ((spec_DiskOk.f k t201).bind fun t204 => (if t204 = true then (some (t201, true)) else (some (([] : List (S66)), false))))))
end
def spec_DoAct.f (k : Nat) (l0_0 : List (S66)) (a1_0 : Int) (a1_1 : ByteArray) (a1_2 : ByteArray) (a1_3 : ByteArray) : Option ((List (S66)) × Bool) := (spec_DiskOk.f k l0_0).bind fun t183 => (if t183 = true then ((spec_l03Name.f a1_1).bind fun t184 => (if t184 = true then (if a1_0 = 3 then (if a1_0 = 1 then (spec_DoAct.j0 k false l0_0 a1_0 a1_1 a1_2 a1_3) else (spec_DoAct.j0 k (a1_2.toList != ([] : List UInt8)) l0_0 a1_0 a1_1 a1_2 a1_3)) else (if a1_3.toList = ([] : List UInt8) then (if a1_0 = 1 then (spec_DoAct.j0 k false l0_0 a1_0 a1_1 a1_2 a1_3) else (spec_DoAct.j0 k (a1_2.toList != ([] : List UInt8)) l0_0 a1_0 a1_1 a1_2 a1_3)) else (spec_DoAct.j0 k true l0_0 a1_0 a1_1 a1_2 a1_3))) else (spec_DoAct.j0 k true l0_0 a1_0 a1_1 a1_2 a1_3))) else (spec_DoAct.j0 k true l0_0 a1_0 a1_1 a1_2 a1_3))
theorem spec_DoAct.mono_l : ∀ k, (∀ y0 y1 y2 y3 y4 y5, LeO (spec_DoAct.j0 k y0 y1 y2 y3 y4 y5) (spec_DoAct.j0 (k + 1) y0 y1 y2 y3 y4 y5)) ∧ (∀ y0 y1 y2 y3 y4 y5 y6 y7 y8, LeO (spec_DoAct.j1 k y0 y1 y2 y3 y4 y5 y6 y7 y8) (spec_DoAct.j1 (k + 1) y0 y1 y2 y3 y4 y5 y6 y7 y8)) ∧ (∀ y0 y1 y2 y3 y4 y5 y6 y7 y8, LeO (spec_DoAct.j2 k y0 y1 y2 y3 y4 y5 y6 y7 y8) (spec_DoAct.j2 (k + 1) y0 y1 y2 y3 y4 y5 y6 y7 y8))
 | 0 => ⟨fun _ _ _ _ _ _ r h => by simp [spec_DoAct.j0] at h, fun _ _ _ _ _ _ _ _ _ r h => by simp [spec_DoAct.j1] at h, fun _ _ _ _ _ _ _ _ _ r h => by simp [spec_DoAct.j2] at h⟩
 | k + 1 => by
  obtain ⟨ih0, ih1, ih2⟩ := spec_DoAct.mono_l k
  refine ⟨?_, ?_, ?_⟩
  ·intro y0 y1 y2 y3 y4 y5
   unfold spec_DoAct.j0
   repeat' first
   | (with_reducible exact ih0 _ _ _ _ _ _)
   | (with_reducible exact ih1 _ _ _ _ _ _ _ _ _)
   | (with_reducible exact ih2 _ _ _ _ _ _ _ _ _)
   | (with_reducible exact spec_DiskOk.mono _ _)
   | (with_reducible exact spec_l03At.mono _ _ _)
   | (with_reducible exact spec_l03Put.mono _ _ _ _ _)
   | (with_reducible exact spec_l03Without.mono _ _ _)
   | (with_reducible exact LeO.refl _)
   | (with_reducible exact LeO.none _)
   | (with_reducible refine LeO.ite ?_ ?_)
   | (with_reducible refine LeO.bind ?_ (fun _ => ?_))
   | exact ih0 _ _ _ _ _ _
   | exact ih1 _ _ _ _ _ _ _ _ _
   | exact ih2 _ _ _ _ _ _ _ _ _
   | exact spec_DiskOk.mono _ _
   | exact spec_l03At.mono _ _ _
   | exact spec_l03Put.mono _ _ _ _ _
   | exact spec_l03Without.mono _ _ _
   | exact LeO.none _
   | refine LeO.ite ?_ ?_
   | refine LeO.bind ?_ (fun _ => ?_)
  ·intro y0 y1 y2 y3 y4 y5 y6 y7 y8
   unfold spec_DoAct.j1
   repeat' first
   | (with_reducible exact ih0 _ _ _ _ _ _)
   | (with_reducible exact ih1 _ _ _ _ _ _ _ _ _)
   | (with_reducible exact ih2 _ _ _ _ _ _ _ _ _)
   | (with_reducible exact spec_DiskOk.mono _ _)
   | (with_reducible exact spec_l03At.mono _ _ _)
   | (with_reducible exact spec_l03Put.mono _ _ _ _ _)
   | (with_reducible exact spec_l03Without.mono _ _ _)
   | (with_reducible exact LeO.refl _)
   | (with_reducible exact LeO.none _)
   | (with_reducible refine LeO.ite ?_ ?_)
   | (with_reducible refine LeO.bind ?_ (fun _ => ?_))
   | exact ih0 _ _ _ _ _ _
   | exact ih1 _ _ _ _ _ _ _ _ _
   | exact ih2 _ _ _ _ _ _ _ _ _
   | exact spec_DiskOk.mono _ _
   | exact spec_l03At.mono _ _ _
   | exact spec_l03Put.mono _ _ _ _ _
   | exact spec_l03Without.mono _ _ _
   | exact LeO.none _
   | refine LeO.ite ?_ ?_
   | refine LeO.bind ?_ (fun _ => ?_)
  ·intro y0 y1 y2 y3 y4 y5 y6 y7 y8
   unfold spec_DoAct.j2
   repeat' first
   | (with_reducible exact ih0 _ _ _ _ _ _)
   | (with_reducible exact ih1 _ _ _ _ _ _ _ _ _)
   | (with_reducible exact ih2 _ _ _ _ _ _ _ _ _)
   | (with_reducible exact spec_DiskOk.mono _ _)
   | (with_reducible exact spec_l03At.mono _ _ _)
   | (with_reducible exact spec_l03Put.mono _ _ _ _ _)
   | (with_reducible exact spec_l03Without.mono _ _ _)
   | (with_reducible exact LeO.refl _)
   | (with_reducible exact LeO.none _)
   | (with_reducible refine LeO.ite ?_ ?_)
   | (with_reducible refine LeO.bind ?_ (fun _ => ?_))
   | exact ih0 _ _ _ _ _ _
   | exact ih1 _ _ _ _ _ _ _ _ _
   | exact ih2 _ _ _ _ _ _ _ _ _
   | exact spec_DiskOk.mono _ _
   | exact spec_l03At.mono _ _ _
   | exact spec_l03Put.mono _ _ _ _ _
   | exact spec_l03Without.mono _ _ _
   | exact LeO.none _
   | refine LeO.ite ?_ ?_
   | refine LeO.bind ?_ (fun _ => ?_)
theorem spec_DoAct.mono : ∀ a0 a1 a2 a3 a4 k, LeO (spec_DoAct.f k a0 a1 a2 a3 a4) (spec_DoAct.f (k + 1) a0 a1 a2 a3 a4) := by
 intro a0 a1 a2 a3 a4 k
 obtain ⟨ih0, ih1, ih2⟩ := spec_DoAct.mono_l k
 unfold spec_DoAct.f
 repeat' first
   | (with_reducible exact ih0 _ _ _ _ _ _)
   | (with_reducible exact ih1 _ _ _ _ _ _ _ _ _)
   | (with_reducible exact ih2 _ _ _ _ _ _ _ _ _)
   | (with_reducible exact spec_DiskOk.mono _ _)
   | (with_reducible exact spec_l03At.mono _ _ _)
   | (with_reducible exact spec_l03Put.mono _ _ _ _ _)
   | (with_reducible exact spec_l03Without.mono _ _ _)
   | (with_reducible exact LeO.refl _)
   | (with_reducible exact LeO.none _)
   | (with_reducible refine LeO.ite ?_ ?_)
   | (with_reducible refine LeO.bind ?_ (fun _ => ?_))
   | exact ih0 _ _ _ _ _ _
   | exact ih1 _ _ _ _ _ _ _ _ _
   | exact ih2 _ _ _ _ _ _ _ _ _
   | exact spec_DiskOk.mono _ _
   | exact spec_l03At.mono _ _ _
   | exact spec_l03Put.mono _ _ _ _ _
   | exact spec_l03Without.mono _ _ _
   | exact LeO.none _
   | refine LeO.ite ?_ ?_
   | refine LeO.bind ?_ (fun _ => ?_)
set_option maxHeartbeats 8000000 in
set_option maxRecDepth 100000 in
theorem spec_DoAct.calls (k : Nat) (A0_0 : Option Addr) (c0_0 : Nat) (l0_0 : List (S66)) (a1_0 : Int) (a1_1 : ByteArray) (a1_2 : ByteArray) (a1_3 : ByteArray) (r1 : List (S66)) (r2 : Bool) (w : World) (hr0_0 : Kd.C k66 w A0_0 l0_0.length l0_0) (hc0_0 : l0_0.length ≤ c0_0) (h : spec_DoAct.f k l0_0 a1_0 a1_1 a1_2 a1_3 = some (r1, r2)) :
  Calls Try.prog 9 #[.agg #[.slice A0_0 l0_0.length c0_0], .agg #[.int .i64 a1_0, .string a1_1, .string a1_2, .string a1_3]] w fun e w' => ∃ v0_ : Value, e = .returned (.tuple #[.agg #[v0_], .bool r2]) ∧ Kd.R k66 66 w' w.heap.size (fun _ => True) v0_ r1 ∧ Below w.heap.size w w' := by
 have hu31 := Try.underlying31
 have hu35 := Try.underlying35
 have hu66 := Try.underlying66
 have HR0_0 := Aside0.mk hr0_0
 have HC0_0 := Aside0.mk hc0_0
 clear hr0_0 hc0_0
 have HB := Aside0.mk (Below.refl w.heap.size w)
 have H : ((spec_DiskOk.f k l0_0).bind fun t183 => (if t183 = true then ((spec_l03Name.f a1_1).bind fun t184 => (if t184 = true then (if a1_0 = 3 then (if a1_0 = 1 then (spec_DoAct.j0 k false l0_0 a1_0 a1_1 a1_2 a1_3) else (spec_DoAct.j0 k (a1_2.toList != ([] : List UInt8)) l0_0 a1_0 a1_1 a1_2 a1_3)) else (if a1_3.toList = ([] : List UInt8) then (if a1_0 = 1 then (spec_DoAct.j0 k false l0_0 a1_0 a1_1 a1_2 a1_3) else (spec_DoAct.j0 k (a1_2.toList != ([] : List UInt8)) l0_0 a1_0 a1_1 a1_2 a1_3)) else (spec_DoAct.j0 k true l0_0 a1_0 a1_1 a1_2 a1_3))) else (spec_DoAct.j0 k true l0_0 a1_0 a1_1 a1_2 a1_3))) else (spec_DoAct.j0 k true l0_0 a1_0 a1_1 a1_2 a1_3))) = some (r1, r2) := h
 clear h
 have HC3 := Aside0.mk H
 clear H
 go_enter Try.func9, Try.ntmps9
 go_upto_region 1 with (first | ((with_reducible refine gate_dst (N := 2) rfl ?_); refine box_event ?hg (N := 2) ?hd (cs := #[.slice A0_0 l0_0.length c0_0]) (t := 31) ?hr ?_; (case hd => rfl); (case hg => rfl); (case hr => first | (go_simp; done) | (go_simp; rfl)); intro gb180 hg w4 hbox hb; have BK180 := am (hbox); have GW180 := zge hg (zb0 HB.out); have GE180 := zge hg (zb0 HB.out); replace HB := am (below_step (zb0 HB.out) hb); clear hb hbox hg) | ((with_reducible refine gate_dst (N := 3) rfl ?_); refine box_event ?hg (N := 3) ?hd (cs := #[.int .i64 a1_0, .string a1_1, .string a1_2, .string a1_3]) (t := 35) ?hr ?_; (case hd => rfl); (case hg => rfl); (case hr => first | (go_simp; done) | (go_simp; rfl)); intro gb181 hg w5 hbox hb; have BK181 := am (hbox); have GW181 := zge hg (zb1 HB.out GE180.out); have GE181 := zge hg (zb1 HB.out GE180.out); have NB180_181 := znl hg (kx BK180.out); have NB181_180 := zng hg (kx BK180.out); replace BK180 := am (bb hb (kx BK180.out)); replace HB := am (below_step (zb1 HB.out GE180.out) hb); clear hb hbox hg) | ((with_reducible refine gate_dst (N := 4) rfl ?_); refine box_event ?hg (N := 4) ?hd (cs := #[.slice none 0 0]) (t := 31) ?hr ?_; (case hd => rfl); (case hg => rfl); (case hr => first | (go_simp; done) | (go_simp; rfl)); intro gb182 hg w6 hbox hb; have BK182 := am (hbox); have GW182 := zge hg (zb2 HB.out GE180.out GE181.out); have GE182 := zge hg (zb2 HB.out GE180.out GE181.out); have NB180_182 := znl hg (kx BK180.out); have NB182_180 := zng hg (kx BK180.out); have NB181_182 := znl hg (kx BK181.out); have NB182_181 := zng hg (kx BK181.out); replace BK180 := am (bb hb (kx BK180.out)); replace BK181 := am (bb hb (kx BK181.out)); replace HB := am (below_step (zb2 HB.out GE180.out GE181.out) hb); clear hb hbox hg))
 (try simp only [Act.put, List.setIfInBounds_toArray, List.set_cons_zero, List.set_cons_succ])
 go_cut [37] (fun v37 wc => ∃ (kq : Nat) (x37_2 : Bool), v37 = .bool x37_2 ∧ Aside0 (spec_DoAct.j0 kq x37_2 l0_0 a1_0 a1_1 a1_2 a1_3 = some (r1, r2)) ∧ Aside0 (kq ≤ k) ∧ Aside0 (wc.heap[gb180]? = some (.cells #[(.slice A0_0 l0_0.length c0_0)] 31 (0, 0))) ∧ Aside0 (wc.heap[gb181]? = some (.cells #[.int .i64 a1_0, .string a1_1, .string a1_2, .string a1_3] 35 (0, 0))) ∧ Aside0 (wc.heap[gb182]? = some (.cells #[(.slice none 0 0)] 31 (0, 0))) ∧ Aside0 (Below w.heap.size w wc))
 case first =>
  have H := HC3.out
  clear HC3
  replace H := Option.bind_eq_some_iff.mp H
  obtain ⟨t183, A70, H⟩ := H
  try dsimp only at H
  have A7 := Aside0.mk A70
  clear A70
  by_cases c8 : t183 = true
  ·subst c8
   have H1 : ((spec_l03Name.f a1_1).bind fun t184 => (if t184 = true then (if a1_0 = 3 then (if a1_0 = 1 then (spec_DoAct.j0 k false l0_0 a1_0 a1_1 a1_2 a1_3) else (spec_DoAct.j0 k (a1_2.toList != ([] : List UInt8)) l0_0 a1_0 a1_1 a1_2 a1_3)) else (if a1_3.toList = ([] : List UInt8) then (if a1_0 = 1 then (spec_DoAct.j0 k false l0_0 a1_0 a1_1 a1_2 a1_3) else (spec_DoAct.j0 k (a1_2.toList != ([] : List UInt8)) l0_0 a1_0 a1_1 a1_2 a1_3)) else (spec_DoAct.j0 k true l0_0 a1_0 a1_1 a1_2 a1_3))) else (spec_DoAct.j0 k true l0_0 a1_0 a1_1 a1_2 a1_3))) = some (r1, r2) := by rw [if_pos rfl] at H; exact H
   clear H
   have H := H1
   clear H1
   replace H := Option.bind_eq_some_iff.mp H
   obtain ⟨t184, A90, H⟩ := H
   try dsimp only at H
   have A9 := Aside0.mk A90
   clear A90
   by_cases c10 : t184 = true
   ·subst c10
    have H1 : (if a1_0 = 3 then (if a1_0 = 1 then (spec_DoAct.j0 k false l0_0 a1_0 a1_1 a1_2 a1_3) else (spec_DoAct.j0 k (a1_2.toList != ([] : List UInt8)) l0_0 a1_0 a1_1 a1_2 a1_3)) else (if a1_3.toList = ([] : List UInt8) then (if a1_0 = 1 then (spec_DoAct.j0 k false l0_0 a1_0 a1_1 a1_2 a1_3) else (spec_DoAct.j0 k (a1_2.toList != ([] : List UInt8)) l0_0 a1_0 a1_1 a1_2 a1_3)) else (spec_DoAct.j0 k true l0_0 a1_0 a1_1 a1_2 a1_3))) = some (r1, r2) := by rw [if_pos rfl] at H; exact H
    clear H
    have H := H1
    clear H1
    by_cases c11 : a1_0 = 3
    ·rw [if_pos c11] at H
     have c11b0 : (a1_0 == 3) = true := beq_iff_eq.mpr c11
     have c11b1 : (a1_0 != 3) = false := bne_eq_false_iff_eq.mpr c11
     clear c11
     (first | rw [c11b0] | (simp only [i64_w, i32_w]; rw [c11b0]) | skip)
     by_cases c12 : a1_0 = 1
     ·rw [if_pos c12] at H
      have c12b0 : (a1_0 == 1) = true := beq_iff_eq.mpr c12
      have c12b1 : (a1_0 != 1) = false := bne_eq_false_iff_eq.mpr c12
      clear c12
      have H' := Aside0.mk H
      clear H
      have hnb13 := NB180_181.out
      have hnc13 := NB181_180.out
      have hnb14 := NB180_182.out
      have hnc14 := NB182_180.out
      obtain ⟨hcz15_0, hfz15_0⟩ := zc1 BK180.out
      go_wp2_with (first | ((with_reducible refine gate_callee (f := 32) rfl ?_); refine goesL_ (some 10) rfl rfl Try.func32 (by kernel_rfl) rfl #[.agg #[.slice A0_0 l0_0.length c0_0]] rfl zr ?_; (with_reducible refine (spec_DiskOk.calls k _ _ l0_0 true _ ?side1 ?side2 A7.out).mono ?_); (case side1 => repeat (first | exact (Kd.C_below HR0_0.out HB.out) | (with_reducible refine Kd.C_alloc ?_ _) | (with_reducible refine Kd.C_drewN ?_ _) | (with_reducible refine Kd.C_drew ?_))); (case side2 => exact HC0_0.out); rintro e w16 ⟨rfl, hb⟩; refine ⟨_, rfl, ?_⟩; replace BK180 := am (bb hb (kx BK180.out)); replace BK181 := am (bb hb (kx BK181.out)); replace BK182 := am (bb hb (kx BK182.out)); replace HB := am (below_step (zb3 HB.out GE180.out GE181.out GE182.out) hb); (try clear hb); (try clear hb2); (try clear hk); (try clear hi); have hnb17 := NB181_182.out; have hnc17 := NB182_181.out; obtain ⟨hcz18_0, hcz18_1, hcz18_2, hcz18_3, hfz18_0, hfz18_1, hfz18_2, hfz18_3⟩ := zc4 BK181.out) | (go_at_call 33; (with_reducible refine (spec_l03Name.calls a1_1 true _ A9.out).mono ?_); rintro e w' ⟨rfl, ⟨nd, rfl⟩⟩))
      go_meet
      case rel => exact ⟨_, (false), (by first | rfl | (simp; done) | (simp [*]; done)), H', ⟨by first | omega | exact Nat.le_refl _⟩, ⟨kx BK180.out⟩, ⟨kx BK181.out⟩, ⟨kx BK182.out⟩, ⟨zb3 HB.out GE180.out GE181.out GE182.out⟩⟩
     ·rw [if_neg c12] at H
      have c12b0 : (a1_0 == 1) = false := beq_eq_false_iff_ne.mpr c12
      have c12b1 : (a1_0 != 1) = true := bne_iff_ne.mpr c12
      have H' := Aside0.mk H
      clear H
      have hnb19 := NB180_181.out
      have hnc19 := NB181_180.out
      have hnb20 := NB180_182.out
      have hnc20 := NB182_180.out
      obtain ⟨hcz21_0, hfz21_0⟩ := zc1 BK180.out
      go_wp2_with (first | ((with_reducible refine gate_callee (f := 32) rfl ?_); refine goesL_ (some 10) rfl rfl Try.func32 (by kernel_rfl) rfl #[.agg #[.slice A0_0 l0_0.length c0_0]] rfl zr ?_; (with_reducible refine (spec_DiskOk.calls k _ _ l0_0 true _ ?side1 ?side2 A7.out).mono ?_); (case side1 => repeat (first | exact (Kd.C_below HR0_0.out HB.out) | (with_reducible refine Kd.C_alloc ?_ _) | (with_reducible refine Kd.C_drewN ?_ _) | (with_reducible refine Kd.C_drew ?_))); (case side2 => exact HC0_0.out); rintro e w22 ⟨rfl, hb⟩; refine ⟨_, rfl, ?_⟩; replace BK180 := am (bb hb (kx BK180.out)); replace BK181 := am (bb hb (kx BK181.out)); replace BK182 := am (bb hb (kx BK182.out)); replace HB := am (below_step (zb3 HB.out GE180.out GE181.out GE182.out) hb); (try clear hb); (try clear hb2); (try clear hk); (try clear hi); have hnb23 := NB181_182.out; have hnc23 := NB182_181.out; obtain ⟨hcz24_0, hcz24_1, hcz24_2, hcz24_3, hfz24_0, hfz24_1, hfz24_2, hfz24_3⟩ := zc4 BK181.out) | (go_at_call 33; (with_reducible refine (spec_l03Name.calls a1_1 true _ A9.out).mono ?_); rintro e w' ⟨rfl, ⟨nd, rfl⟩⟩))
      go_meet
      case rel => exact ⟨_, ((a1_2.toList != ([] : List UInt8))), (by first | rfl | (simp; done) | (simp [*]; done) | (simp; cases a1_2.toList <;> rfl)), H', ⟨by first | omega | exact Nat.le_refl _⟩, ⟨kx BK180.out⟩, ⟨kx BK181.out⟩, ⟨kx BK182.out⟩, ⟨zb3 HB.out GE180.out GE181.out GE182.out⟩⟩
    ·rw [if_neg c11] at H
     have c11b0 : (a1_0 == 3) = false := beq_eq_false_iff_ne.mpr c11
     have c11b1 : (a1_0 != 3) = true := bne_iff_ne.mpr c11
     (first | rw [c11b0] | (simp only [i64_w, i32_w]; rw [c11b0]) | skip)
     by_cases c25 : a1_3.toList = ([] : List UInt8)
     ·rw [if_pos c25] at H
      have c25b0 : (a1_3.toList == ([] : List UInt8)) = true := beq_iff_eq.mpr c25
      have c25b1 : (a1_3.toList != ([] : List UInt8)) = false := bne_eq_false_iff_eq.mpr c25
      clear c25
      by_cases c26 : a1_0 = 1
      ·rw [if_pos c26] at H
       have c26b0 : (a1_0 == 1) = true := beq_iff_eq.mpr c26
       have c26b1 : (a1_0 != 1) = false := bne_eq_false_iff_eq.mpr c26
       clear c26
       have H' := Aside0.mk H
       clear H
       have hnb27 := NB180_181.out
       have hnc27 := NB181_180.out
       have hnb28 := NB180_182.out
       have hnc28 := NB182_180.out
       obtain ⟨hcz29_0, hfz29_0⟩ := zc1 BK180.out
       go_wp2_with (first | ((with_reducible refine gate_callee (f := 32) rfl ?_); refine goesL_ (some 10) rfl rfl Try.func32 (by kernel_rfl) rfl #[.agg #[.slice A0_0 l0_0.length c0_0]] rfl zr ?_; (with_reducible refine (spec_DiskOk.calls k _ _ l0_0 true _ ?side1 ?side2 A7.out).mono ?_); (case side1 => repeat (first | exact (Kd.C_below HR0_0.out HB.out) | (with_reducible refine Kd.C_alloc ?_ _) | (with_reducible refine Kd.C_drewN ?_ _) | (with_reducible refine Kd.C_drew ?_))); (case side2 => exact HC0_0.out); rintro e w30 ⟨rfl, hb⟩; refine ⟨_, rfl, ?_⟩; replace BK180 := am (bb hb (kx BK180.out)); replace BK181 := am (bb hb (kx BK181.out)); replace BK182 := am (bb hb (kx BK182.out)); replace HB := am (below_step (zb3 HB.out GE180.out GE181.out GE182.out) hb); (try clear hb); (try clear hb2); (try clear hk); (try clear hi); have hnb31 := NB181_182.out; have hnc31 := NB182_181.out; obtain ⟨hcz32_0, hcz32_1, hcz32_2, hcz32_3, hfz32_0, hfz32_1, hfz32_2, hfz32_3⟩ := zc4 BK181.out) | (go_at_call 33; (with_reducible refine (spec_l03Name.calls a1_1 true _ A9.out).mono ?_); rintro e w' ⟨rfl, ⟨nd, rfl⟩⟩))
       go_meet
       case rel => exact ⟨_, (false), (by first | rfl | (simp; done) | (simp [*]; done)), H', ⟨by first | omega | exact Nat.le_refl _⟩, ⟨kx BK180.out⟩, ⟨kx BK181.out⟩, ⟨kx BK182.out⟩, ⟨zb3 HB.out GE180.out GE181.out GE182.out⟩⟩
      ·rw [if_neg c26] at H
       have c26b0 : (a1_0 == 1) = false := beq_eq_false_iff_ne.mpr c26
       have c26b1 : (a1_0 != 1) = true := bne_iff_ne.mpr c26
       have H' := Aside0.mk H
       clear H
       have hnb33 := NB180_181.out
       have hnc33 := NB181_180.out
       have hnb34 := NB180_182.out
       have hnc34 := NB182_180.out
       obtain ⟨hcz35_0, hfz35_0⟩ := zc1 BK180.out
       go_wp2_with (first | ((with_reducible refine gate_callee (f := 32) rfl ?_); refine goesL_ (some 10) rfl rfl Try.func32 (by kernel_rfl) rfl #[.agg #[.slice A0_0 l0_0.length c0_0]] rfl zr ?_; (with_reducible refine (spec_DiskOk.calls k _ _ l0_0 true _ ?side1 ?side2 A7.out).mono ?_); (case side1 => repeat (first | exact (Kd.C_below HR0_0.out HB.out) | (with_reducible refine Kd.C_alloc ?_ _) | (with_reducible refine Kd.C_drewN ?_ _) | (with_reducible refine Kd.C_drew ?_))); (case side2 => exact HC0_0.out); rintro e w36 ⟨rfl, hb⟩; refine ⟨_, rfl, ?_⟩; replace BK180 := am (bb hb (kx BK180.out)); replace BK181 := am (bb hb (kx BK181.out)); replace BK182 := am (bb hb (kx BK182.out)); replace HB := am (below_step (zb3 HB.out GE180.out GE181.out GE182.out) hb); (try clear hb); (try clear hb2); (try clear hk); (try clear hi); have hnb37 := NB181_182.out; have hnc37 := NB182_181.out; obtain ⟨hcz38_0, hcz38_1, hcz38_2, hcz38_3, hfz38_0, hfz38_1, hfz38_2, hfz38_3⟩ := zc4 BK181.out) | (go_at_call 33; (with_reducible refine (spec_l03Name.calls a1_1 true _ A9.out).mono ?_); rintro e w' ⟨rfl, ⟨nd, rfl⟩⟩))
       go_meet
       case rel => exact ⟨_, ((a1_2.toList != ([] : List UInt8))), (by first | rfl | (simp; done) | (simp [*]; done) | (simp; cases a1_2.toList <;> rfl)), H', ⟨by first | omega | exact Nat.le_refl _⟩, ⟨kx BK180.out⟩, ⟨kx BK181.out⟩, ⟨kx BK182.out⟩, ⟨zb3 HB.out GE180.out GE181.out GE182.out⟩⟩
     ·rw [if_neg c25] at H
      have c25b0 : (a1_3.toList == ([] : List UInt8)) = false := beq_eq_false_iff_ne.mpr c25
      have c25b1 : (a1_3.toList != ([] : List UInt8)) = true := bne_iff_ne.mpr c25
      have H' := Aside0.mk H
      clear H
      have hnb39 := NB180_181.out
      have hnc39 := NB181_180.out
      have hnb40 := NB180_182.out
      have hnc40 := NB182_180.out
      obtain ⟨hcz41_0, hfz41_0⟩ := zc1 BK180.out
      go_wp2_with (first | ((with_reducible refine gate_callee (f := 32) rfl ?_); refine goesL_ (some 10) rfl rfl Try.func32 (by kernel_rfl) rfl #[.agg #[.slice A0_0 l0_0.length c0_0]] rfl zr ?_; (with_reducible refine (spec_DiskOk.calls k _ _ l0_0 true _ ?side1 ?side2 A7.out).mono ?_); (case side1 => repeat (first | exact (Kd.C_below HR0_0.out HB.out) | (with_reducible refine Kd.C_alloc ?_ _) | (with_reducible refine Kd.C_drewN ?_ _) | (with_reducible refine Kd.C_drew ?_))); (case side2 => exact HC0_0.out); rintro e w42 ⟨rfl, hb⟩; refine ⟨_, rfl, ?_⟩; replace BK180 := am (bb hb (kx BK180.out)); replace BK181 := am (bb hb (kx BK181.out)); replace BK182 := am (bb hb (kx BK182.out)); replace HB := am (below_step (zb3 HB.out GE180.out GE181.out GE182.out) hb); (try clear hb); (try clear hb2); (try clear hk); (try clear hi); have hnb43 := NB181_182.out; have hnc43 := NB182_181.out; obtain ⟨hcz44_0, hcz44_1, hcz44_2, hcz44_3, hfz44_0, hfz44_1, hfz44_2, hfz44_3⟩ := zc4 BK181.out) | (go_at_call 33; (with_reducible refine (spec_l03Name.calls a1_1 true _ A9.out).mono ?_); rintro e w' ⟨rfl, ⟨nd, rfl⟩⟩))
      go_meet
      case rel => exact ⟨_, (true), (by first | rfl | (simp; done) | (simp [*]; done)), H', ⟨by first | omega | exact Nat.le_refl _⟩, ⟨kx BK180.out⟩, ⟨kx BK181.out⟩, ⟨kx BK182.out⟩, ⟨zb3 HB.out GE180.out GE181.out GE182.out⟩⟩
   ·replace c10 := Bool.eq_false_iff.mpr c10
    subst c10
    have H1 : (spec_DoAct.j0 k true l0_0 a1_0 a1_1 a1_2 a1_3) = some (r1, r2) := by rw [if_neg (show ¬ (false = true) by decide)] at H; exact H
    clear H
    have H := H1
    clear H1
    have H' := Aside0.mk H
    clear H
    have hnb45 := NB180_181.out
    have hnc45 := NB181_180.out
    have hnb46 := NB180_182.out
    have hnc46 := NB182_180.out
    obtain ⟨hcz47_0, hfz47_0⟩ := zc1 BK180.out
    go_wp2_with (first | ((with_reducible refine gate_callee (f := 32) rfl ?_); refine goesL_ (some 10) rfl rfl Try.func32 (by kernel_rfl) rfl #[.agg #[.slice A0_0 l0_0.length c0_0]] rfl zr ?_; (with_reducible refine (spec_DiskOk.calls k _ _ l0_0 true _ ?side1 ?side2 A7.out).mono ?_); (case side1 => repeat (first | exact (Kd.C_below HR0_0.out HB.out) | (with_reducible refine Kd.C_alloc ?_ _) | (with_reducible refine Kd.C_drewN ?_ _) | (with_reducible refine Kd.C_drew ?_))); (case side2 => exact HC0_0.out); rintro e w48 ⟨rfl, hb⟩; refine ⟨_, rfl, ?_⟩; replace BK180 := am (bb hb (kx BK180.out)); replace BK181 := am (bb hb (kx BK181.out)); replace BK182 := am (bb hb (kx BK182.out)); replace HB := am (below_step (zb3 HB.out GE180.out GE181.out GE182.out) hb); (try clear hb); (try clear hb2); (try clear hk); (try clear hi); have hnb49 := NB181_182.out; have hnc49 := NB182_181.out; obtain ⟨hcz50_0, hcz50_1, hcz50_2, hcz50_3, hfz50_0, hfz50_1, hfz50_2, hfz50_3⟩ := zc4 BK181.out) | (go_at_call 33; (with_reducible refine (spec_l03Name.calls a1_1 false _ A9.out).mono ?_); rintro e w' ⟨rfl, ⟨nd, rfl⟩⟩))
    go_meet
    case rel => exact ⟨_, (true), (by first | rfl | (simp; done) | (simp [*]; done)), H', ⟨by first | omega | exact Nat.le_refl _⟩, ⟨kx BK180.out⟩, ⟨kx BK181.out⟩, ⟨kx BK182.out⟩, ⟨zb3 HB.out GE180.out GE181.out GE182.out⟩⟩
  ·replace c8 := Bool.eq_false_iff.mpr c8
   subst c8
   have H1 : (spec_DoAct.j0 k true l0_0 a1_0 a1_1 a1_2 a1_3) = some (r1, r2) := by rw [if_neg (show ¬ (false = true) by decide)] at H; exact H
   clear H
   have H := H1
   clear H1
   have H' := Aside0.mk H
   clear H
   have hnb51 := NB180_181.out
   have hnc51 := NB181_180.out
   have hnb52 := NB180_182.out
   have hnc52 := NB182_180.out
   obtain ⟨hcz53_0, hfz53_0⟩ := zc1 BK180.out
   go_wp2_with (first | ((with_reducible refine gate_callee (f := 32) rfl ?_); refine goesL_ (some 10) rfl rfl Try.func32 (by kernel_rfl) rfl #[.agg #[.slice A0_0 l0_0.length c0_0]] rfl zr ?_; (with_reducible refine (spec_DiskOk.calls k _ _ l0_0 false _ ?side1 ?side2 A7.out).mono ?_); (case side1 => repeat (first | exact (Kd.C_below HR0_0.out HB.out) | (with_reducible refine Kd.C_alloc ?_ _) | (with_reducible refine Kd.C_drewN ?_ _) | (with_reducible refine Kd.C_drew ?_))); (case side2 => exact HC0_0.out); rintro e w54 ⟨rfl, hb⟩; refine ⟨_, rfl, ?_⟩; replace BK180 := am (bb hb (kx BK180.out)); replace BK181 := am (bb hb (kx BK181.out)); replace BK182 := am (bb hb (kx BK182.out)); replace HB := am (below_step (zb3 HB.out GE180.out GE181.out GE182.out) hb); (try clear hb); (try clear hb2); (try clear hk); (try clear hi)))
   go_meet
   case rel => exact ⟨_, (true), (by first | rfl | (simp; done) | (simp [*]; done)), H', ⟨by first | omega | exact Nat.le_refl _⟩, ⟨kx BK180.out⟩, ⟨kx BK181.out⟩, ⟨kx BK182.out⟩, ⟨zb3 HB.out GE180.out GE181.out GE182.out⟩⟩
 case rest =>
  clear HC3
  try clear c1
  try clear c2
  try clear p2
  try clear c3
  try clear c4
  try clear c5
  try clear c8
  try clear c9
  try clear c10
  try clear c11
  try clear c11b0
  try clear c11b1
  try clear c12
  try clear c12b0
  try clear c12b1
  try clear c13
  try clear c14
  try clear c17
  try clear c19
  try clear c20
  try clear c23
  try clear c25
  try clear c25b0
  try clear c25b1
  try clear c26
  try clear c26b0
  try clear c26b1
  try clear c27
  try clear c28
  try clear c31
  try clear c32
  try clear c33
  try clear c34
  try clear c37
  try clear c39
  try clear c40
  try clear c43
  try clear c45
  try clear c46
  try clear c49
  try clear c51
  try clear c52
  try clear hcz15_0
  try clear hcz18_0
  try clear hcz18_1
  try clear hcz18_2
  try clear hcz18_3
  try clear hcz21_0
  try clear hcz24_0
  try clear hcz24_1
  try clear hcz24_2
  try clear hcz24_3
  try clear hcz29_0
  try clear hcz32_0
  try clear hcz32_1
  try clear hcz32_2
  try clear hcz32_3
  try clear hcz35_0
  try clear hcz38_0
  try clear hcz38_1
  try clear hcz38_2
  try clear hcz38_3
  try clear hcz41_0
  try clear hcz44_0
  try clear hcz44_1
  try clear hcz44_2
  try clear hcz44_3
  try clear hcz47_0
  try clear hcz50_0
  try clear hcz50_1
  try clear hcz50_2
  try clear hcz50_3
  try clear hcz53_0
  try clear hfz15_0
  try clear hfz18_0
  try clear hfz18_1
  try clear hfz18_2
  try clear hfz18_3
  try clear hfz21_0
  try clear hfz24_0
  try clear hfz24_1
  try clear hfz24_2
  try clear hfz24_3
  try clear hfz29_0
  try clear hfz32_0
  try clear hfz32_1
  try clear hfz32_2
  try clear hfz32_3
  try clear hfz35_0
  try clear hfz38_0
  try clear hfz38_1
  try clear hfz38_2
  try clear hfz38_3
  try clear hfz41_0
  try clear hfz44_0
  try clear hfz44_1
  try clear hfz44_2
  try clear hfz44_3
  try clear hfz47_0
  try clear hfz50_0
  try clear hfz50_1
  try clear hfz50_2
  try clear hfz50_3
  try clear hfz53_0
  obtain ⟨kq, x37_2, rfl, HA, HJ2, BK180, BK181, BK182, HB⟩ := hcut
  cases kq with
  | zero => exact absurd HA.out (by simp [spec_DoAct.j0])
  | succ kj2 =>
   have H := HA.out
   clear HA
   simp only [spec_DoAct.j0] at H
   by_cases c55 : x37_2 = true
   ·subst c55
    have H1 : (some (([] : List (S66)), false)) = some (r1, r2) := by rw [if_pos rfl] at H; exact H
    clear H
    have H := H1
    clear H1
    simp only [Option.some.injEq, Prod.mk.injEq] at H
    obtain ⟨rfl, rfl⟩ := H
    have hnb56 := NB182_180.out
    have hnc56 := NB180_182.out
    have hnb57 := NB182_181.out
    have hnc57 := NB181_182.out
    obtain ⟨hcz58_0, hfz58_0⟩ := zc1 BK182.out
    go_wp2
    refine bodyPost_ret (results_ct rfl _ _ gb182 31 #[.slice none 0 0] (0, 0) _ rfl (by (with_reducible repeat (first | refine blk_drewN ?_ _ | refine blk_drew ?_ | refine blk_alloc ?_ _)); refine blk_put (cs := #[.slice none 0 0]) ?_ 0 _ rfl; (with_reducible repeat (first | refine blk_drewN ?_ _ | refine blk_drew ?_ | refine blk_alloc ?_ _)); exact BK182.out) Try.underlying31 rfl (by kernel_rfl)) rfl ?_
    exact ⟨_, by first | rfl | (simp [errW_none, errW_some] <;> rfl) | (simp [*, errW_none, errW_some] <;> rfl), by first | exact Kd.R_nil _ _ _ _ _ | exact Kd.N_nil _ _ _ _ _ | exact Kd.V_nil _ _ _ _ _ | exact Kd.Q_nil _ _ _ _ _ | exact Kd.S_nil _ _ _ _ _, zb3 HB.out GE180.out GE181.out GE182.out⟩
   ·replace c55 := Bool.eq_false_iff.mpr c55
    subst c55
    have H1 : ((spec_l03At.f kj2 l0_0 a1_1).bind fun t185 => (if t185 ≥ 0 then (if 0 ≤ t185 then (if t185 < (l0_0.length : Int) then (spec_DoAct.j1 kj2 t185 l0_0 a1_0 a1_1 a1_2 a1_3 ((rd_T66 l0_0 t185).f0) ((rd_T66 l0_0 t185).f1) ((rd_T66 l0_0 t185).f2)) else (none)) else (none)) else (spec_DoAct.j1 kj2 t185 l0_0 a1_0 a1_1 a1_2 a1_3 a1_1 (⟨#[]⟩ : ByteArray) 0))) = some (r1, r2) := by rw [if_neg (show ¬ (false = true) by decide)] at H; exact H
    clear H
    have H := H1
    clear H1
    replace H := Option.bind_eq_some_iff.mp H
    obtain ⟨t185, A590, H⟩ := H
    try dsimp only at H
    have A59 := Aside0.mk A590
    clear A590
    have HC60 := Aside0.mk H
    clear H
    have hnb61 := NB180_181.out
    have hnc61 := NB181_180.out
    have hnb62 := NB180_182.out
    have hnc62 := NB182_180.out
    obtain ⟨hcz63_0, hfz63_0⟩ := zc1 BK180.out
    have hnb64 := NB181_182.out
    have hnc64 := NB182_181.out
    obtain ⟨hcz65_0, hcz65_1, hcz65_2, hcz65_3, hfz65_0, hfz65_1, hfz65_2, hfz65_3⟩ := zc4 BK181.out
    go_upto_if 47 with (first | ((with_reducible refine gate_callee (f := 34) rfl ?_); refine goesL_ (some 42) rfl rfl Try.func34 (by kernel_rfl) rfl #[.agg #[.slice A0_0 l0_0.length c0_0], .string a1_1] rfl zr ?_; (with_reducible refine (spec_l03At.calls kj2 _ _ l0_0 a1_1 t185 _ ?side1 ?side2 A59.out).mono ?_); (case side1 => repeat (first | exact (Kd.C_below HR0_0.out HB.out) | (with_reducible refine Kd.C_alloc ?_ _) | (with_reducible refine Kd.C_drewN ?_ _) | (with_reducible refine Kd.C_drew ?_))); (case side2 => exact HC0_0.out); rintro e w66 ⟨rfl, hb⟩; refine ⟨_, rfl, ?_⟩; replace BK180 := am (bb hb (kx BK180.out)); replace BK181 := am (bb hb (kx BK181.out)); replace BK182 := am (bb hb (kx BK182.out)); replace HB := am (below_step (zb3 HB.out GE180.out GE181.out GE182.out) hb); (try clear hb); (try clear hb2); (try clear hk); (try clear hi); obtain ⟨hcz67_0, hcz67_1, hcz67_2, hcz67_3, hfz67_0, hfz67_1, hfz67_2, hfz67_3⟩ := zc4 BK181.out) | ((with_reducible refine gate_dst (N := 7) rfl ?_); refine box_event ?hg (N := 7) ?hd (cs := #[.string (⟨#[]⟩ : ByteArray), .string (⟨#[]⟩ : ByteArray), .int .i64 0]) (t := 66) ?hr ?_; (case hd => rfl); (case hg => rfl); (case hr => first | (go_simp; done) | (go_simp; rfl)); intro gb186 hg w68 hbox hb; have BK186 := am (hbox); have GW186 := zge hg (zb3 HB.out GE180.out GE181.out GE182.out); have GE186 := zge hg (zb3 HB.out GE180.out GE181.out GE182.out); have NB180_186 := znl hg (kx BK180.out); have NB186_180 := zng hg (kx BK180.out); have NB181_186 := znl hg (kx BK181.out); have NB186_181 := zng hg (kx BK181.out); have NB182_186 := znl hg (kx BK182.out); have NB186_182 := zng hg (kx BK182.out); replace BK180 := am (bb hb (kx BK180.out)); replace BK181 := am (bb hb (kx BK181.out)); replace BK182 := am (bb hb (kx BK182.out)); replace HB := am (below_step (zb3 HB.out GE180.out GE181.out GE182.out) hb); clear hb hbox hg; have hnb69 := NB186_180.out; have hnc69 := NB180_186.out; have hnb70 := NB186_181.out; have hnc70 := NB181_186.out; have hnb71 := NB186_182.out; have hnc71 := NB182_186.out; obtain ⟨hcz72_0, hcz72_1, hcz72_2, hfz72_0, hfz72_1, hfz72_2⟩ := zc3 BK186.out))
    (try simp only [Act.put, List.setIfInBounds_toArray, List.set_cons_zero, List.set_cons_succ])
    go_cut [] (fun wc => ∃ (kq : Nat) (x187000_59 : ByteArray) (x187001_59 : ByteArray) (x187002_59 : Int), Aside0 (spec_DoAct.j1 kq t185 l0_0 a1_0 a1_1 a1_2 a1_3 x187000_59 x187001_59 x187002_59 = some (r1, r2)) ∧ Aside0 (kq ≤ kj2) ∧ Aside0 (wc.heap[gb180]? = some (.cells #[(.slice A0_0 l0_0.length c0_0)] 31 (0, 0))) ∧ Aside0 (wc.heap[gb181]? = some (.cells #[.int .i64 a1_0, .string a1_1, .string a1_2, .string a1_3] 35 (0, 0))) ∧ Aside0 (wc.heap[gb182]? = some (.cells #[(.slice none 0 0)] 31 (0, 0))) ∧ Aside0 (wc.heap[gb186]? = some (.cells #[.string x187000_59, .string x187001_59, .int .i64 x187002_59] 66 (0, 0))) ∧ Aside0 (Below w.heap.size w wc))
    case first =>
     have H := HC60.out
     clear HC60
     by_cases c73 : t185 ≥ 0
     ·rw [if_pos c73] at H
      have c73b0 : decide (0 ≤ t185) = true := decide_eq_true c73
      clear c73
      (first | rw [c73b0] | (simp only [i64_w, i32_w]; rw [c73b0]) | skip)
      by_cases c74 : 0 ≤ t185
      ·rw [if_pos c74] at H
       have c74b0 : decide (0 ≤ t185) = true := decide_eq_true c74
       clear c74
       by_cases c75 : t185 < (l0_0.length : Int)
       ·rw [if_pos c75] at H
        have c75b0 : decide (t185 < (l0_0.length : Int)) = true := decide_eq_true c75
        have c75b1 : decide ((l0_0.length : Int) ≤ t185) = false := decide_eq_false (by omega)
        clear c75
        have H' := Aside0.mk H
        clear H
        have hnb76 := NB180_181.out
        have hnc76 := NB181_180.out
        have hnb77 := NB180_182.out
        have hnc77 := NB182_180.out
        have hnb78 := NB180_186.out
        have hnc78 := NB186_180.out
        obtain ⟨hcz79_0, hfz79_0⟩ := zc1 BK180.out
        have p187 : 0 ≤ (t185 : Int) := of_decide_eq_true (by first | (with_reducible assumption) | assumption)
        have q187 : t185 < (l0_0.length : Int) := of_decide_eq_true (by first | (with_reducible assumption) | assumption)
        obtain ⟨ad187, e187, hx187_0, hx187_1, hx187_2⟩ := at_T66 HR0_0.out t185 p187 q187
        cases e187
        have hn187_0 : ad187.block ≠ gb186 := Nat.ne_of_lt (Nat.lt_of_lt_of_le (by have := World.block_lt_of_cell? _ _ hx187_0; first | rwa [add_block] at this | exact this) GW186.out)
        have hn187_1 : ad187.block ≠ gb186 := Nat.ne_of_lt (Nat.lt_of_lt_of_le (by have := World.block_lt_of_cell? _ _ hx187_0; first | rwa [add_block] at this | exact this) GW186.out)
        have hn187_2 : ad187.block ≠ gb186 := Nat.ne_of_lt (Nat.lt_of_lt_of_le (by have := World.block_lt_of_cell? _ _ hx187_0; first | rwa [add_block] at this | exact this) GW186.out)
        replace hx187_0 := (HB.out.cell (World.block_lt_of_cell? w _ hx187_0)).trans hx187_0
        replace hx187_1 := (HB.out.cell (World.block_lt_of_cell? w _ hx187_1)).trans hx187_1
        replace hx187_2 := (HB.out.cell (World.block_lt_of_cell? w _ hx187_2)).trans hx187_2
        replace hx187_0 := (cell_far (p := ⟨gb186, 0, none⟩) (by first | (rw [add_block]; exact hn187_0) | (show (Addr.add _ _).block ≠ _; rw [add_block]; exact hn187_0) | exact hn187_0) (.string a1_1)).trans hx187_0
        replace hx187_1 := (cell_far (p := ⟨gb186, 0, none⟩) (by first | (rw [add_block]; exact hn187_0) | (show (Addr.add _ _).block ≠ _; rw [add_block]; exact hn187_0) | exact hn187_0) (.string a1_1)).trans hx187_1
        replace hx187_2 := (cell_far (p := ⟨gb186, 0, none⟩) (by first | (rw [add_block]; exact hn187_0) | (show (Addr.add _ _).block ≠ _; rw [add_block]; exact hn187_0) | exact hn187_0) (.string a1_1)).trans hx187_2
        replace hx187_0 := (cell_far (p := ⟨gb186, 1, none⟩) (by first | (rw [add_block]; exact hn187_1) | (show (Addr.add _ _).block ≠ _; rw [add_block]; exact hn187_1) | exact hn187_1) (.string (⟨#[]⟩ : ByteArray))).trans hx187_0
        replace hx187_1 := (cell_far (p := ⟨gb186, 1, none⟩) (by first | (rw [add_block]; exact hn187_1) | (show (Addr.add _ _).block ≠ _; rw [add_block]; exact hn187_1) | exact hn187_1) (.string (⟨#[]⟩ : ByteArray))).trans hx187_1
        replace hx187_2 := (cell_far (p := ⟨gb186, 1, none⟩) (by first | (rw [add_block]; exact hn187_1) | (show (Addr.add _ _).block ≠ _; rw [add_block]; exact hn187_1) | exact hn187_1) (.string (⟨#[]⟩ : ByteArray))).trans hx187_2
        replace hx187_0 := (cell_far (p := ⟨gb186, 2, none⟩) (by first | (rw [add_block]; exact hn187_2) | (show (Addr.add _ _).block ≠ _; rw [add_block]; exact hn187_2) | exact hn187_2) (.int .i64 0)).trans hx187_0
        replace hx187_1 := (cell_far (p := ⟨gb186, 2, none⟩) (by first | (rw [add_block]; exact hn187_2) | (show (Addr.add _ _).block ≠ _; rw [add_block]; exact hn187_2) | exact hn187_2) (.int .i64 0)).trans hx187_1
        replace hx187_2 := (cell_far (p := ⟨gb186, 2, none⟩) (by first | (rw [add_block]; exact hn187_2) | (show (Addr.add _ _).block ≠ _; rw [add_block]; exact hn187_2) | exact hn187_2) (.int .i64 0)).trans hx187_2
        clear hn187_0 hn187_1 hn187_2
        replace p187 := eq_true p187
        replace q187 := eq_true q187
        have hnb80 := NB186_181.out
        have hnc80 := NB181_186.out
        have hnb81 := NB186_182.out
        have hnc81 := NB182_186.out
        obtain ⟨hcz82_0, hcz82_1, hcz82_2, hfz82_0, hfz82_1, hfz82_2⟩ := zc3 BK186.out
        go_wp2
        go_meet
        case rel => exact ⟨_, ((rd_T66 l0_0 t185).f0), ((rd_T66 l0_0 t185).f1), ((rd_T66 l0_0 t185).f2), H', ⟨by have := HJ2.out; first | omega | exact Nat.le_refl _⟩, ⟨zf1 BK180.out NB180_186.out⟩, ⟨zf1 BK181.out NB181_186.out⟩, ⟨zf1 BK182.out NB182_186.out⟩, ⟨by (with_reducible repeat (first | refine blk_drewN ?_ _ | refine blk_drew ?_ | refine blk_alloc ?_ _)); refine blk_put (cs := #[.string ((rd_T66 l0_0 t185).f0), .string ((rd_T66 l0_0 t185).f1), .int .i64 0]) ?_ 2 _ rfl; (with_reducible repeat (first | refine blk_drewN ?_ _ | refine blk_drew ?_ | refine blk_alloc ?_ _)); refine blk_put (cs := #[.string ((rd_T66 l0_0 t185).f0), .string (⟨#[]⟩ : ByteArray), .int .i64 0]) ?_ 1 _ rfl; (with_reducible repeat (first | refine blk_drewN ?_ _ | refine blk_drew ?_ | refine blk_alloc ?_ _)); refine blk_put (cs := #[.string a1_1, .string (⟨#[]⟩ : ByteArray), .int .i64 0]) ?_ 0 _ rfl; (with_reducible repeat (first | refine blk_drewN ?_ _ | refine blk_drew ?_ | refine blk_alloc ?_ _)); refine blk_put (cs := #[.string a1_1, .string (⟨#[]⟩ : ByteArray), .int .i64 0]) ?_ 2 _ rfl; (with_reducible repeat (first | refine blk_drewN ?_ _ | refine blk_drew ?_ | refine blk_alloc ?_ _)); refine blk_put (cs := #[.string a1_1, .string (⟨#[]⟩ : ByteArray), .int .i64 0]) ?_ 1 _ rfl; (with_reducible repeat (first | refine blk_drewN ?_ _ | refine blk_drew ?_ | refine blk_alloc ?_ _)); refine blk_put (cs := #[.string (⟨#[]⟩ : ByteArray), .string (⟨#[]⟩ : ByteArray), .int .i64 0]) ?_ 0 _ rfl; (with_reducible repeat (first | refine blk_drewN ?_ _ | refine blk_drew ?_ | refine blk_alloc ?_ _)); exact BK186.out⟩, ⟨zb4 HB.out GE180.out GE181.out GE182.out GE186.out⟩⟩
       ·rw [if_neg c75] at H
        exact absurd H (by simp)
      ·rw [if_neg c74] at H
       exact absurd H (by simp)
     ·rw [if_neg c73] at H
      have c73b0 : decide (0 ≤ t185) = false := decide_eq_false c73
      clear c73
      (first | rw [c73b0] | (simp only [i64_w, i32_w]; rw [c73b0]) | skip)
      have H' := Aside0.mk H
      clear H
      go_wp2
      go_meet
      case rel => exact ⟨_, (a1_1), ((⟨#[]⟩ : ByteArray)), (0), H', ⟨by have := HJ2.out; first | omega | exact Nat.le_refl _⟩, ⟨zf1 BK180.out NB180_186.out⟩, ⟨zf1 BK181.out NB181_186.out⟩, ⟨zf1 BK182.out NB182_186.out⟩, ⟨by (with_reducible repeat (first | refine blk_drewN ?_ _ | refine blk_drew ?_ | refine blk_alloc ?_ _)); refine blk_put (cs := #[.string a1_1, .string (⟨#[]⟩ : ByteArray), .int .i64 0]) ?_ 2 _ rfl; (with_reducible repeat (first | refine blk_drewN ?_ _ | refine blk_drew ?_ | refine blk_alloc ?_ _)); refine blk_put (cs := #[.string a1_1, .string (⟨#[]⟩ : ByteArray), .int .i64 0]) ?_ 1 _ rfl; (with_reducible repeat (first | refine blk_drewN ?_ _ | refine blk_drew ?_ | refine blk_alloc ?_ _)); refine blk_put (cs := #[.string (⟨#[]⟩ : ByteArray), .string (⟨#[]⟩ : ByteArray), .int .i64 0]) ?_ 0 _ rfl; (with_reducible repeat (first | refine blk_drewN ?_ _ | refine blk_drew ?_ | refine blk_alloc ?_ _)); exact BK186.out⟩, ⟨zb4 HB.out GE180.out GE181.out GE182.out GE186.out⟩⟩
    case rest =>
     clear HC60
     try clear c1
     try clear p1
     try clear q1
     try clear hx1
     try clear c2
     try clear p2
     try clear c3
     try clear c4
     try clear c5
     try clear c6
     try clear c7
     try clear c8
     try clear c9
     try clear c10
     try clear c11
     try clear c11b0
     try clear c11b1
     try clear c12
     try clear c12b0
     try clear c12b1
     try clear c13
     try clear c14
     try clear c17
     try clear p18
     try clear q18
     try clear hx18
     try clear c19
     try clear c20
     try clear c23
     try clear c25
     try clear c25b0
     try clear c25b1
     try clear c26
     try clear c26b0
     try clear c26b1
     try clear c27
     try clear c28
     try clear c31
     try clear c32
     try clear c33
     try clear c34
     try clear c37
     try clear c39
     try clear c40
     try clear c43
     try clear c45
     try clear c46
     try clear c49
     try clear c51
     try clear c52
     try clear c55
     try clear c56
     try clear c57
     try clear c61
     try clear c62
     try clear c64
     try clear c69
     try clear c70
     try clear c71
     try clear c73
     try clear c73b0
     try clear c74
     try clear c74b0
     try clear c75
     try clear c75b0
     try clear c75b1
     try clear c76
     try clear c77
     try clear c78
     try clear c80
     try clear c81
     try clear hcz15_0
     try clear hcz18_0
     try clear hcz18_1
     try clear hcz18_2
     try clear hcz18_3
     try clear hcz21_0
     try clear hcz24_0
     try clear hcz24_1
     try clear hcz24_2
     try clear hcz24_3
     try clear hcz29_0
     try clear hcz32_0
     try clear hcz32_1
     try clear hcz32_2
     try clear hcz32_3
     try clear hcz35_0
     try clear hcz38_0
     try clear hcz38_1
     try clear hcz38_2
     try clear hcz38_3
     try clear hcz41_0
     try clear hcz44_0
     try clear hcz44_1
     try clear hcz44_2
     try clear hcz44_3
     try clear hcz47_0
     try clear hcz50_0
     try clear hcz50_1
     try clear hcz50_2
     try clear hcz50_3
     try clear hcz53_0
     try clear hcz58_0
     try clear hcz63_0
     try clear hcz65_0
     try clear hcz65_1
     try clear hcz65_2
     try clear hcz65_3
     try clear hcz67_0
     try clear hcz67_1
     try clear hcz67_2
     try clear hcz67_3
     try clear hcz72_0
     try clear hcz72_1
     try clear hcz72_2
     try clear hcz79_0
     try clear hcz82_0
     try clear hcz82_1
     try clear hcz82_2
     try clear hfz15_0
     try clear hfz18_0
     try clear hfz18_1
     try clear hfz18_2
     try clear hfz18_3
     try clear hfz21_0
     try clear hfz24_0
     try clear hfz24_1
     try clear hfz24_2
     try clear hfz24_3
     try clear hfz29_0
     try clear hfz32_0
     try clear hfz32_1
     try clear hfz32_2
     try clear hfz32_3
     try clear hfz35_0
     try clear hfz38_0
     try clear hfz38_1
     try clear hfz38_2
     try clear hfz38_3
     try clear hfz41_0
     try clear hfz44_0
     try clear hfz44_1
     try clear hfz44_2
     try clear hfz44_3
     try clear hfz47_0
     try clear hfz50_0
     try clear hfz50_1
     try clear hfz50_2
     try clear hfz50_3
     try clear hfz53_0
     try clear hfz58_0
     try clear hfz63_0
     try clear hfz65_0
     try clear hfz65_1
     try clear hfz65_2
     try clear hfz65_3
     try clear hfz67_0
     try clear hfz67_1
     try clear hfz67_2
     try clear hfz67_3
     try clear hfz72_0
     try clear hfz72_1
     try clear hfz72_2
     try clear hfz79_0
     try clear hfz82_0
     try clear hfz82_1
     try clear hfz82_2
     try clear hx187_0
     try clear hx187_1
     try clear hx187_2
     try clear p187
     try clear p2
     try clear q187
     obtain ⟨kq, x187000_59, x187001_59, x187002_59, HA, HJ59, BK180, BK181, BK182, BK186, HB⟩ := hcut
     cases kq with
     | zero => exact absurd HA.out (by simp [spec_DoAct.j1])
     | succ kj59 =>
      have H := HA.out
      clear HA
      simp only [spec_DoAct.j1] at H
      by_cases c83 : a1_0 = 1
      ·rw [if_pos c83] at H
       have c83b0 : (a1_0 == 1) = true := beq_iff_eq.mpr c83
       have c83b1 : (a1_0 != 1) = false := bne_eq_false_iff_eq.mpr c83
       clear c83
       by_cases c84 : x187001_59.size + a1_2.size ≤ 9223372036854775807
       ·rw [if_pos c84] at H
        have c84b0 := eq_true c84
        have c84b1 : decide (x187001_59.size + a1_2.size ≤ 9223372036854775807) = true := decide_eq_true c84
        try have c84b2 : (9223372036854775807 < x187001_59.size + a1_2.size) = False := eq_false (Nat.not_lt.2 c84)
        replace H := Option.bind_eq_some_iff.mp H
        obtain ⟨t189, A850, H⟩ := H
        try dsimp only at H
        have A85 := Aside0.mk A850
        clear A850
        replace H := Option.bind_eq_some_iff.mp H
        obtain ⟨t192, A860, H⟩ := H
        try dsimp only at H
        have A86 := Aside0.mk A860
        clear A860
        by_cases c87 : t192 = true
        ·subst c87
         have H1 : (some (t189, true)) = some (r1, r2) := by rw [if_pos rfl] at H; exact H
         clear H
         have H := H1
         clear H1
         simp only [Option.some.injEq, Prod.mk.injEq] at H
         obtain ⟨rfl, rfl⟩ := H
         go_wp2_with (first | ((with_reducible refine gate_dst (N := 8) rfl ?_); refine box_event ?hg (N := 8) ?hd (cs := #[.slice none 0 0]) (t := 31) ?hr ?_; (case hd => rfl); (case hg => rfl); (case hr => first | (go_simp; done) | (go_simp; rfl)); intro gb188 hg w88 hbox hb; have BK188 := am (hbox); have GW188 := zge hg (zb4 HB.out GE180.out GE181.out GE182.out GE186.out); have GE188 := zge hg (zb4 HB.out GE180.out GE181.out GE182.out GE186.out); have NB180_188 := znl hg (kx BK180.out); have NB188_180 := zng hg (kx BK180.out); have NB181_188 := znl hg (kx BK181.out); have NB188_181 := zng hg (kx BK181.out); have NB182_188 := znl hg (kx BK182.out); have NB188_182 := zng hg (kx BK182.out); have NB186_188 := znl hg (kx BK186.out); have NB188_186 := zng hg (kx BK186.out); replace BK180 := am (bb hb (kx BK180.out)); replace BK181 := am (bb hb (kx BK181.out)); replace BK182 := am (bb hb (kx BK182.out)); replace BK186 := am (bb hb (kx BK186.out)); replace HB := am (below_step (zb4 HB.out GE180.out GE181.out GE182.out GE186.out) hb); clear hb hbox hg; have hnb89 := NB188_180.out; have hnc89 := NB180_188.out; have hnb90 := NB188_181.out; have hnc90 := NB181_188.out; have hnb91 := NB188_182.out; have hnc91 := NB182_188.out; have hnb92 := NB188_186.out; have hnc92 := NB186_188.out; obtain ⟨hcz93_0, hfz93_0⟩ := zc1 BK188.out; have hnb94 := NB181_180.out; have hnc94 := NB180_181.out; have hnb95 := NB181_182.out; have hnc95 := NB182_181.out; have hnb96 := NB181_186.out; have hnc96 := NB186_181.out; obtain ⟨hcz97_0, hcz97_1, hcz97_2, hcz97_3, hfz97_0, hfz97_1, hfz97_2, hfz97_3⟩ := zc4 BK181.out; have hnb98 := NB186_180.out; have hnc98 := NB180_186.out; have hnb99 := NB186_182.out; have hnc99 := NB182_186.out; obtain ⟨hcz100_0, hcz100_1, hcz100_2, hfz100_0, hfz100_1, hfz100_2⟩ := zc3 BK186.out; have hnb101 := NB180_182.out; have hnc101 := NB182_180.out; obtain ⟨hcz102_0, hfz102_0⟩ := zc1 BK180.out) | ((with_reducible refine gate_callee (f := 35) rfl ?_); refine goesL_ (some 67) rfl rfl Try.func35 (by kernel_rfl) rfl #[.agg #[.slice A0_0 l0_0.length c0_0], .agg #[.string x187000_59, .string (x187001_59 ++ a1_2), .int .i64 x187002_59]] rfl zr ?_; (with_reducible refine (spec_l03Put.calls kj59 _ _ l0_0 x187000_59 (x187001_59 ++ a1_2) x187002_59 t189 _ ?side1 ?side2 A85.out).mono ?_); (case side1 => exact Kd.C_below HR0_0.out (zb5 HB.out GE180.out GE181.out GE182.out GE186.out GE188.out)); (case side2 => exact HC0_0.out); rintro e w103 ⟨v190, rfl, ho0, hb⟩; refine ⟨_, rfl, ?_⟩; have HO191 := am (Kd.R_lower (Kd.R_newB ho0 (g := gb186) (o := .cells #[.string x187000_59, .string (x187001_59 ++ a1_2), .int .i64 x187002_59] 66 (0, 0)) (by (with_reducible repeat (first | refine blk_drewN ?_ _ | refine blk_drew ?_ | refine blk_alloc ?_ _)); refine blk_put (cs := #[.string x187000_59, .string x187001_59, .int .i64 x187002_59]) ?_ 1 _ rfl; (with_reducible repeat (first | refine blk_drewN ?_ _ | refine blk_drew ?_ | refine blk_alloc ?_ _)); refine blk_far ?_ NB186_188.out _; (with_reducible repeat (first | refine blk_drewN ?_ _ | refine blk_drew ?_ | refine blk_alloc ?_ _)); exact BK186.out)) (below_size (zb5 HB.out GE180.out GE181.out GE182.out GE186.out GE188.out))); replace BK180 := am (bb hb (zf2 BK180.out NB180_186.out NB180_188.out)); replace BK181 := am (bb hb (zf2 BK181.out NB181_186.out NB181_188.out)); replace BK182 := am (bb hb (zf2 BK182.out NB182_186.out NB182_188.out)); replace BK186 := am (blk_below (g := gb186) (o := .cells #[.string x187000_59, .string (x187001_59 ++ a1_2), .int .i64 x187002_59] 66 (0, 0)) (by (with_reducible repeat (first | refine blk_drewN ?_ _ | refine blk_drew ?_ | refine blk_alloc ?_ _)); refine blk_put (cs := #[.string x187000_59, .string x187001_59, .int .i64 x187002_59]) ?_ 1 _ rfl; (with_reducible repeat (first | refine blk_drewN ?_ _ | refine blk_drew ?_ | refine blk_alloc ?_ _)); refine blk_far ?_ NB186_188.out _; (with_reducible repeat (first | refine blk_drewN ?_ _ | refine blk_drew ?_ | refine blk_alloc ?_ _)); exact BK186.out) hb); replace BK188 := am (blk_below (g := gb188) (o := .cells #[.slice none 0 0] 31 (0, 0)) (by (with_reducible repeat (first | refine blk_drewN ?_ _ | refine blk_drew ?_ | refine blk_alloc ?_ _)); refine blk_far ?_ NB188_186.out _; (with_reducible repeat (first | refine blk_drewN ?_ _ | refine blk_drew ?_ | refine blk_alloc ?_ _)); refine blk_put (cs := #[.slice none 0 0]) ?_ 0 _ rfl; (with_reducible repeat (first | refine blk_drewN ?_ _ | refine blk_drew ?_ | refine blk_alloc ?_ _)); exact BK188.out) hb); replace HB := am (below_step (zb5 HB.out GE180.out GE181.out GE182.out GE186.out GE188.out) hb); (try clear hb); (try clear hb2); (try clear hk); (try clear hi); (try clear ho0); obtain ⟨Ao104, co104, eo104⟩ := Kd.R_slice HO191.out; subst eo104; obtain ⟨hcz105_0, hfz105_0⟩ := zc1 BK188.out) | ((with_reducible refine gate_callee (f := 32) rfl ?_); refine goesL_ (some 125) rfl rfl Try.func32 (by kernel_rfl) rfl #[.agg #[.slice Ao104 t189.length co104]] rfl zr ?_; (with_reducible refine (spec_DiskOk.calls kj59 _ _ t189 true _ ?side1 ?side2 A86.out).mono ?_); (case side1 => refine (Kd.R_reads' (e := 66) (base := w.heap.size) (ok := fun k_ => (True ∧ k_ ≠ gb186)) (n := t189.length) (c := co104) ?_).2.2; exact (rx ((Kd.R_mono (Kd.R_far (p := ⟨gb188, 0, none⟩) (Kd.R_types HO191.out BK188.out (by decide)) (fun _ hk => hk.2) (.slice Ao104 t189.length co104)) (fun _ h_ => h_.1))))); (case side2 => exact (Kd.R_reads' HO191.out).2.1); rintro e w106 ⟨rfl, hb⟩; refine ⟨_, rfl, ?_⟩; replace HO191 := am (Kd.R_below (rx ((Kd.R_mono (Kd.R_far (p := ⟨gb188, 0, none⟩) (Kd.R_types HO191.out BK188.out (by decide)) (fun _ hk => hk.2) (.slice Ao104 t189.length co104)) (fun _ h_ => h_.1)))) hb); replace BK180 := am (bb hb (zf1 BK180.out NB180_188.out)); replace BK181 := am (bb hb (zf1 BK181.out NB181_188.out)); replace BK182 := am (bb hb (zf1 BK182.out NB182_188.out)); replace BK186 := am (bb hb (zf1 BK186.out NB186_188.out)); replace BK188 := am (blk_below (g := gb188) (o := .cells #[.slice Ao104 t189.length co104] 31 (0, 0)) (by (with_reducible repeat (first | refine blk_drewN ?_ _ | refine blk_drew ?_ | refine blk_alloc ?_ _)); refine blk_put (cs := #[.slice none 0 0]) ?_ 0 _ rfl; (with_reducible repeat (first | refine blk_drewN ?_ _ | refine blk_drew ?_ | refine blk_alloc ?_ _)); exact BK188.out) hb); replace HB := am (below_step (zb5 HB.out GE180.out GE181.out GE182.out GE186.out GE188.out) hb); (try clear hb); (try clear hb2); (try clear hk); (try clear hi); obtain ⟨hcz107_0, hfz107_0⟩ := zc1 BK188.out; obtain ⟨hcz108_0, hfz108_0⟩ := zc1 BK182.out))
         refine bodyPost_ret (results_ct rfl _ _ gb182 31 #[.slice Ao104 t189.length co104] (0, 0) _ rfl (by (with_reducible repeat (first | refine blk_drewN ?_ _ | refine blk_drew ?_ | refine blk_alloc ?_ _)); refine blk_put (cs := #[.slice none 0 0]) ?_ 0 _ rfl; (with_reducible repeat (first | refine blk_drewN ?_ _ | refine blk_drew ?_ | refine blk_alloc ?_ _)); exact BK182.out) Try.underlying31 rfl (by kernel_rfl)) rfl ?_
         exact ⟨_, by first | rfl | (simp [errW_none, errW_some] <;> rfl) | (simp [*, errW_none, errW_some] <;> rfl), rx (Kd.R_mono (Kd.R_far (p := ⟨gb182, 0, none⟩) (Kd.R_types HO191.out BK182.out (by decide)) (fun _ hk => hk.2) (.slice Ao104 t189.length co104)) (fun _ hk => trivial)), zb5 HB.out GE180.out GE181.out GE182.out GE186.out GE188.out⟩
        ·replace c87 := Bool.eq_false_iff.mpr c87
         subst c87
         have H1 : (some (([] : List (S66)), false)) = some (r1, r2) := by rw [if_neg (show ¬ (false = true) by decide)] at H; exact H
         clear H
         have H := H1
         clear H1
         simp only [Option.some.injEq, Prod.mk.injEq] at H
         obtain ⟨rfl, rfl⟩ := H
         go_wp2_with (first | ((with_reducible refine gate_dst (N := 8) rfl ?_); refine box_event ?hg (N := 8) ?hd (cs := #[.slice none 0 0]) (t := 31) ?hr ?_; (case hd => rfl); (case hg => rfl); (case hr => first | (go_simp; done) | (go_simp; rfl)); intro gb188 hg w109 hbox hb; have BK188 := am (hbox); have GW188 := zge hg (zb4 HB.out GE180.out GE181.out GE182.out GE186.out); have GE188 := zge hg (zb4 HB.out GE180.out GE181.out GE182.out GE186.out); have NB180_188 := znl hg (kx BK180.out); have NB188_180 := zng hg (kx BK180.out); have NB181_188 := znl hg (kx BK181.out); have NB188_181 := zng hg (kx BK181.out); have NB182_188 := znl hg (kx BK182.out); have NB188_182 := zng hg (kx BK182.out); have NB186_188 := znl hg (kx BK186.out); have NB188_186 := zng hg (kx BK186.out); replace BK180 := am (bb hb (kx BK180.out)); replace BK181 := am (bb hb (kx BK181.out)); replace BK182 := am (bb hb (kx BK182.out)); replace BK186 := am (bb hb (kx BK186.out)); replace HB := am (below_step (zb4 HB.out GE180.out GE181.out GE182.out GE186.out) hb); clear hb hbox hg; have hnb110 := NB188_180.out; have hnc110 := NB180_188.out; have hnb111 := NB188_181.out; have hnc111 := NB181_188.out; have hnb112 := NB188_182.out; have hnc112 := NB182_188.out; have hnb113 := NB188_186.out; have hnc113 := NB186_188.out; obtain ⟨hcz114_0, hfz114_0⟩ := zc1 BK188.out; have hnb115 := NB181_180.out; have hnc115 := NB180_181.out; have hnb116 := NB181_182.out; have hnc116 := NB182_181.out; have hnb117 := NB181_186.out; have hnc117 := NB186_181.out; obtain ⟨hcz118_0, hcz118_1, hcz118_2, hcz118_3, hfz118_0, hfz118_1, hfz118_2, hfz118_3⟩ := zc4 BK181.out; have hnb119 := NB186_180.out; have hnc119 := NB180_186.out; have hnb120 := NB186_182.out; have hnc120 := NB182_186.out; obtain ⟨hcz121_0, hcz121_1, hcz121_2, hfz121_0, hfz121_1, hfz121_2⟩ := zc3 BK186.out; have hnb122 := NB180_182.out; have hnc122 := NB182_180.out; obtain ⟨hcz123_0, hfz123_0⟩ := zc1 BK180.out) | ((with_reducible refine gate_callee (f := 35) rfl ?_); refine goesL_ (some 67) rfl rfl Try.func35 (by kernel_rfl) rfl #[.agg #[.slice A0_0 l0_0.length c0_0], .agg #[.string x187000_59, .string (x187001_59 ++ a1_2), .int .i64 x187002_59]] rfl zr ?_; (with_reducible refine (spec_l03Put.calls kj59 _ _ l0_0 x187000_59 (x187001_59 ++ a1_2) x187002_59 t189 _ ?side1 ?side2 A85.out).mono ?_); (case side1 => exact Kd.C_below HR0_0.out (zb5 HB.out GE180.out GE181.out GE182.out GE186.out GE188.out)); (case side2 => exact HC0_0.out); rintro e w124 ⟨v190, rfl, ho0, hb⟩; refine ⟨_, rfl, ?_⟩; have HO191 := am (Kd.R_lower (Kd.R_newB ho0 (g := gb186) (o := .cells #[.string x187000_59, .string (x187001_59 ++ a1_2), .int .i64 x187002_59] 66 (0, 0)) (by (with_reducible repeat (first | refine blk_drewN ?_ _ | refine blk_drew ?_ | refine blk_alloc ?_ _)); refine blk_put (cs := #[.string x187000_59, .string x187001_59, .int .i64 x187002_59]) ?_ 1 _ rfl; (with_reducible repeat (first | refine blk_drewN ?_ _ | refine blk_drew ?_ | refine blk_alloc ?_ _)); refine blk_far ?_ NB186_188.out _; (with_reducible repeat (first | refine blk_drewN ?_ _ | refine blk_drew ?_ | refine blk_alloc ?_ _)); exact BK186.out)) (below_size (zb5 HB.out GE180.out GE181.out GE182.out GE186.out GE188.out))); replace BK180 := am (bb hb (zf2 BK180.out NB180_186.out NB180_188.out)); replace BK181 := am (bb hb (zf2 BK181.out NB181_186.out NB181_188.out)); replace BK182 := am (bb hb (zf2 BK182.out NB182_186.out NB182_188.out)); replace BK186 := am (blk_below (g := gb186) (o := .cells #[.string x187000_59, .string (x187001_59 ++ a1_2), .int .i64 x187002_59] 66 (0, 0)) (by (with_reducible repeat (first | refine blk_drewN ?_ _ | refine blk_drew ?_ | refine blk_alloc ?_ _)); refine blk_put (cs := #[.string x187000_59, .string x187001_59, .int .i64 x187002_59]) ?_ 1 _ rfl; (with_reducible repeat (first | refine blk_drewN ?_ _ | refine blk_drew ?_ | refine blk_alloc ?_ _)); refine blk_far ?_ NB186_188.out _; (with_reducible repeat (first | refine blk_drewN ?_ _ | refine blk_drew ?_ | refine blk_alloc ?_ _)); exact BK186.out) hb); replace BK188 := am (blk_below (g := gb188) (o := .cells #[.slice none 0 0] 31 (0, 0)) (by (with_reducible repeat (first | refine blk_drewN ?_ _ | refine blk_drew ?_ | refine blk_alloc ?_ _)); refine blk_far ?_ NB188_186.out _; (with_reducible repeat (first | refine blk_drewN ?_ _ | refine blk_drew ?_ | refine blk_alloc ?_ _)); refine blk_put (cs := #[.slice none 0 0]) ?_ 0 _ rfl; (with_reducible repeat (first | refine blk_drewN ?_ _ | refine blk_drew ?_ | refine blk_alloc ?_ _)); exact BK188.out) hb); replace HB := am (below_step (zb5 HB.out GE180.out GE181.out GE182.out GE186.out GE188.out) hb); (try clear hb); (try clear hb2); (try clear hk); (try clear hi); (try clear ho0); obtain ⟨Ao125, co125, eo125⟩ := Kd.R_slice HO191.out; subst eo125; obtain ⟨hcz126_0, hfz126_0⟩ := zc1 BK188.out) | ((with_reducible refine gate_callee (f := 32) rfl ?_); refine goesL_ (some 125) rfl rfl Try.func32 (by kernel_rfl) rfl #[.agg #[.slice Ao125 t189.length co125]] rfl zr ?_; (with_reducible refine (spec_DiskOk.calls kj59 _ _ t189 false _ ?side1 ?side2 A86.out).mono ?_); (case side1 => refine (Kd.R_reads' (e := 66) (base := w.heap.size) (ok := fun k_ => (True ∧ k_ ≠ gb186)) (n := t189.length) (c := co125) ?_).2.2; exact (rx ((Kd.R_mono (Kd.R_far (p := ⟨gb188, 0, none⟩) (Kd.R_types HO191.out BK188.out (by decide)) (fun _ hk => hk.2) (.slice Ao125 t189.length co125)) (fun _ h_ => h_.1))))); (case side2 => exact (Kd.R_reads' HO191.out).2.1); rintro e w127 ⟨rfl, hb⟩; refine ⟨_, rfl, ?_⟩; replace HO191 := am (Kd.R_below (rx ((Kd.R_mono (Kd.R_far (p := ⟨gb188, 0, none⟩) (Kd.R_types HO191.out BK188.out (by decide)) (fun _ hk => hk.2) (.slice Ao125 t189.length co125)) (fun _ h_ => h_.1)))) hb); replace BK180 := am (bb hb (zf1 BK180.out NB180_188.out)); replace BK181 := am (bb hb (zf1 BK181.out NB181_188.out)); replace BK182 := am (bb hb (zf1 BK182.out NB182_188.out)); replace BK186 := am (bb hb (zf1 BK186.out NB186_188.out)); replace BK188 := am (blk_below (g := gb188) (o := .cells #[.slice Ao125 t189.length co125] 31 (0, 0)) (by (with_reducible repeat (first | refine blk_drewN ?_ _ | refine blk_drew ?_ | refine blk_alloc ?_ _)); refine blk_put (cs := #[.slice none 0 0]) ?_ 0 _ rfl; (with_reducible repeat (first | refine blk_drewN ?_ _ | refine blk_drew ?_ | refine blk_alloc ?_ _)); exact BK188.out) hb); replace HB := am (below_step (zb5 HB.out GE180.out GE181.out GE182.out GE186.out GE188.out) hb); (try clear hb); (try clear hb2); (try clear hk); (try clear hi); obtain ⟨hcz128_0, hfz128_0⟩ := zc1 BK182.out))
         refine bodyPost_ret (results_ct rfl _ _ gb182 31 #[.slice none 0 0] (0, 0) _ rfl (by (with_reducible repeat (first | refine blk_drewN ?_ _ | refine blk_drew ?_ | refine blk_alloc ?_ _)); refine blk_put (cs := #[.slice none 0 0]) ?_ 0 _ rfl; (with_reducible repeat (first | refine blk_drewN ?_ _ | refine blk_drew ?_ | refine blk_alloc ?_ _)); exact BK182.out) Try.underlying31 rfl (by kernel_rfl)) rfl ?_
         exact ⟨_, by first | rfl | (simp [errW_none, errW_some] <;> rfl) | (simp [*, errW_none, errW_some] <;> rfl), by first | exact Kd.R_nil _ _ _ _ _ | exact Kd.N_nil _ _ _ _ _ | exact Kd.V_nil _ _ _ _ _ | exact Kd.Q_nil _ _ _ _ _ | exact Kd.S_nil _ _ _ _ _, zb5 HB.out GE180.out GE181.out GE182.out GE186.out GE188.out⟩
       ·rw [if_neg c84] at H
        exact absurd H (by simp)
      ·rw [if_neg c83] at H
       have c83b0 : (a1_0 == 1) = false := beq_eq_false_iff_ne.mpr c83
       have c83b1 : (a1_0 != 1) = true := bne_iff_ne.mpr c83
       by_cases c129 : t185 < 0
       ·rw [if_pos c129] at H
        have c129b0 : decide (t185 < 0) = true := decide_eq_true c129
        clear c129
        simp only [Option.some.injEq, Prod.mk.injEq] at H
        obtain ⟨rfl, rfl⟩ := H
        go_wp2_with (first | ((with_reducible refine gate_dst (N := 8) rfl ?_); refine box_event ?hg (N := 8) ?hd (cs := #[.slice none 0 0]) (t := 31) ?hr ?_; (case hd => rfl); (case hg => rfl); (case hr => first | (go_simp; done) | (go_simp; rfl)); intro gb188 hg w130 hbox hb; have BK188 := am (hbox); have GW188 := zge hg (zb4 HB.out GE180.out GE181.out GE182.out GE186.out); have GE188 := zge hg (zb4 HB.out GE180.out GE181.out GE182.out GE186.out); have NB180_188 := znl hg (kx BK180.out); have NB188_180 := zng hg (kx BK180.out); have NB181_188 := znl hg (kx BK181.out); have NB188_181 := zng hg (kx BK181.out); have NB182_188 := znl hg (kx BK182.out); have NB188_182 := zng hg (kx BK182.out); have NB186_188 := znl hg (kx BK186.out); have NB188_186 := zng hg (kx BK186.out); replace BK180 := am (bb hb (kx BK180.out)); replace BK181 := am (bb hb (kx BK181.out)); replace BK182 := am (bb hb (kx BK182.out)); replace BK186 := am (bb hb (kx BK186.out)); replace HB := am (below_step (zb4 HB.out GE180.out GE181.out GE182.out GE186.out) hb); clear hb hbox hg; have hnb131 := NB188_180.out; have hnc131 := NB180_188.out; have hnb132 := NB188_181.out; have hnc132 := NB181_188.out; have hnb133 := NB188_182.out; have hnc133 := NB182_188.out; have hnb134 := NB188_186.out; have hnc134 := NB186_188.out; obtain ⟨hcz135_0, hfz135_0⟩ := zc1 BK188.out; have hnb136 := NB181_180.out; have hnc136 := NB180_181.out; have hnb137 := NB181_182.out; have hnc137 := NB182_181.out; have hnb138 := NB181_186.out; have hnc138 := NB186_181.out; obtain ⟨hcz139_0, hcz139_1, hcz139_2, hcz139_3, hfz139_0, hfz139_1, hfz139_2, hfz139_3⟩ := zc4 BK181.out; have hnb140 := NB182_180.out; have hnc140 := NB180_182.out; have hnb141 := NB182_186.out; have hnc141 := NB186_182.out; obtain ⟨hcz142_0, hfz142_0⟩ := zc1 BK182.out))
        refine bodyPost_ret (results_ct rfl _ _ gb182 31 #[.slice none 0 0] (0, 0) _ rfl (by (with_reducible repeat (first | refine blk_drewN ?_ _ | refine blk_drew ?_ | refine blk_alloc ?_ _)); refine blk_put (cs := #[.slice none 0 0]) ?_ 0 _ rfl; (with_reducible repeat (first | refine blk_drewN ?_ _ | refine blk_drew ?_ | refine blk_alloc ?_ _)); refine blk_far ?_ NB182_188.out _; (with_reducible repeat (first | refine blk_drewN ?_ _ | refine blk_drew ?_ | refine blk_alloc ?_ _)); exact BK182.out) Try.underlying31 rfl (by kernel_rfl)) rfl ?_
        exact ⟨_, by first | rfl | (simp [errW_none, errW_some] <;> rfl) | (simp [*, errW_none, errW_some] <;> rfl), by first | exact Kd.R_nil _ _ _ _ _ | exact Kd.N_nil _ _ _ _ _ | exact Kd.V_nil _ _ _ _ _ | exact Kd.Q_nil _ _ _ _ _ | exact Kd.S_nil _ _ _ _ _, zb5 HB.out GE180.out GE181.out GE182.out GE186.out GE188.out⟩
       ·rw [if_neg c129] at H
        have c129b0 : decide (t185 < 0) = false := decide_eq_false c129
        clear c129
        by_cases c143 : a1_0 = 2
        ·rw [if_pos c143] at H
         have c143b0 : (a1_0 == 2) = true := beq_iff_eq.mpr c143
         have c143b1 : (a1_0 != 2) = false := bne_eq_false_iff_eq.mpr c143
         clear c143
         replace H := Option.bind_eq_some_iff.mp H
         obtain ⟨t193, A1440, H⟩ := H
         try dsimp only at H
         have A144 := Aside0.mk A1440
         clear A1440
         replace H := Option.bind_eq_some_iff.mp H
         obtain ⟨t196, A1450, H⟩ := H
         try dsimp only at H
         have A145 := Aside0.mk A1450
         clear A1450
         by_cases c146 : t196 = true
         ·subst c146
          have H1 : (some (t193, true)) = some (r1, r2) := by rw [if_pos rfl] at H; exact H
          clear H
          have H := H1
          clear H1
          simp only [Option.some.injEq, Prod.mk.injEq] at H
          obtain ⟨rfl, rfl⟩ := H
          go_wp2_with (first | ((with_reducible refine gate_dst (N := 8) rfl ?_); refine box_event ?hg (N := 8) ?hd (cs := #[.slice none 0 0]) (t := 31) ?hr ?_; (case hd => rfl); (case hg => rfl); (case hr => first | (go_simp; done) | (go_simp; rfl)); intro gb188 hg w147 hbox hb; have BK188 := am (hbox); have GW188 := zge hg (zb4 HB.out GE180.out GE181.out GE182.out GE186.out); have GE188 := zge hg (zb4 HB.out GE180.out GE181.out GE182.out GE186.out); have NB180_188 := znl hg (kx BK180.out); have NB188_180 := zng hg (kx BK180.out); have NB181_188 := znl hg (kx BK181.out); have NB188_181 := zng hg (kx BK181.out); have NB182_188 := znl hg (kx BK182.out); have NB188_182 := zng hg (kx BK182.out); have NB186_188 := znl hg (kx BK186.out); have NB188_186 := zng hg (kx BK186.out); replace BK180 := am (bb hb (kx BK180.out)); replace BK181 := am (bb hb (kx BK181.out)); replace BK182 := am (bb hb (kx BK182.out)); replace BK186 := am (bb hb (kx BK186.out)); replace HB := am (below_step (zb4 HB.out GE180.out GE181.out GE182.out GE186.out) hb); clear hb hbox hg; have hnb148 := NB188_180.out; have hnc148 := NB180_188.out; have hnb149 := NB188_181.out; have hnc149 := NB181_188.out; have hnb150 := NB188_182.out; have hnc150 := NB182_188.out; have hnb151 := NB188_186.out; have hnc151 := NB186_188.out; obtain ⟨hcz152_0, hfz152_0⟩ := zc1 BK188.out; have hnb153 := NB181_180.out; have hnc153 := NB180_181.out; have hnb154 := NB181_182.out; have hnc154 := NB182_181.out; have hnb155 := NB181_186.out; have hnc155 := NB186_181.out; obtain ⟨hcz156_0, hcz156_1, hcz156_2, hcz156_3, hfz156_0, hfz156_1, hfz156_2, hfz156_3⟩ := zc4 BK181.out; have hnb157 := NB186_180.out; have hnc157 := NB180_186.out; have hnb158 := NB186_182.out; have hnc158 := NB182_186.out; obtain ⟨hcz159_0, hcz159_1, hcz159_2, hfz159_0, hfz159_1, hfz159_2⟩ := zc3 BK186.out; have hnb160 := NB180_182.out; have hnc160 := NB182_180.out; obtain ⟨hcz161_0, hfz161_0⟩ := zc1 BK180.out) | ((with_reducible refine gate_callee (f := 35) rfl ?_); refine goesL_ (some 82) rfl rfl Try.func35 (by kernel_rfl) rfl #[.agg #[.slice A0_0 l0_0.length c0_0], .agg #[.string x187000_59, .string x187001_59, .int .i64 (x187001_59.size : Int)]] rfl zr ?_; (with_reducible refine (spec_l03Put.calls kj59 _ _ l0_0 x187000_59 x187001_59 (x187001_59.size : Int) t193 _ ?side1 ?side2 A144.out).mono ?_); (case side1 => exact Kd.C_below HR0_0.out (zb5 HB.out GE180.out GE181.out GE182.out GE186.out GE188.out)); (case side2 => exact HC0_0.out); rintro e w162 ⟨v194, rfl, ho0, hb⟩; refine ⟨_, rfl, ?_⟩; have HO195 := am (Kd.R_lower (Kd.R_newB ho0 (g := gb186) (o := .cells #[.string x187000_59, .string x187001_59, .int .i64 (x187001_59.size : Int)] 66 (0, 0)) (by (with_reducible repeat (first | refine blk_drewN ?_ _ | refine blk_drew ?_ | refine blk_alloc ?_ _)); refine blk_put (cs := #[.string x187000_59, .string x187001_59, .int .i64 x187002_59]) ?_ 2 _ rfl; (with_reducible repeat (first | refine blk_drewN ?_ _ | refine blk_drew ?_ | refine blk_alloc ?_ _)); refine blk_far ?_ NB186_188.out _; (with_reducible repeat (first | refine blk_drewN ?_ _ | refine blk_drew ?_ | refine blk_alloc ?_ _)); exact BK186.out)) (below_size (zb5 HB.out GE180.out GE181.out GE182.out GE186.out GE188.out))); replace BK180 := am (bb hb (zf2 BK180.out NB180_186.out NB180_188.out)); replace BK181 := am (bb hb (zf2 BK181.out NB181_186.out NB181_188.out)); replace BK182 := am (bb hb (zf2 BK182.out NB182_186.out NB182_188.out)); replace BK186 := am (blk_below (g := gb186) (o := .cells #[.string x187000_59, .string x187001_59, .int .i64 (x187001_59.size : Int)] 66 (0, 0)) (by (with_reducible repeat (first | refine blk_drewN ?_ _ | refine blk_drew ?_ | refine blk_alloc ?_ _)); refine blk_put (cs := #[.string x187000_59, .string x187001_59, .int .i64 x187002_59]) ?_ 2 _ rfl; (with_reducible repeat (first | refine blk_drewN ?_ _ | refine blk_drew ?_ | refine blk_alloc ?_ _)); refine blk_far ?_ NB186_188.out _; (with_reducible repeat (first | refine blk_drewN ?_ _ | refine blk_drew ?_ | refine blk_alloc ?_ _)); exact BK186.out) hb); replace BK188 := am (blk_below (g := gb188) (o := .cells #[.slice none 0 0] 31 (0, 0)) (by (with_reducible repeat (first | refine blk_drewN ?_ _ | refine blk_drew ?_ | refine blk_alloc ?_ _)); refine blk_far ?_ NB188_186.out _; (with_reducible repeat (first | refine blk_drewN ?_ _ | refine blk_drew ?_ | refine blk_alloc ?_ _)); refine blk_put (cs := #[.slice none 0 0]) ?_ 0 _ rfl; (with_reducible repeat (first | refine blk_drewN ?_ _ | refine blk_drew ?_ | refine blk_alloc ?_ _)); exact BK188.out) hb); replace HB := am (below_step (zb5 HB.out GE180.out GE181.out GE182.out GE186.out GE188.out) hb); (try clear hb); (try clear hb2); (try clear hk); (try clear hi); (try clear ho0); obtain ⟨Ao163, co163, eo163⟩ := Kd.R_slice HO195.out; subst eo163; obtain ⟨hcz164_0, hfz164_0⟩ := zc1 BK188.out) | ((with_reducible refine gate_callee (f := 32) rfl ?_); refine goesL_ (some 125) rfl rfl Try.func32 (by kernel_rfl) rfl #[.agg #[.slice Ao163 t193.length co163]] rfl zr ?_; (with_reducible refine (spec_DiskOk.calls kj59 _ _ t193 true _ ?side1 ?side2 A145.out).mono ?_); (case side1 => refine (Kd.R_reads' (e := 66) (base := w.heap.size) (ok := fun k_ => (True ∧ k_ ≠ gb186)) (n := t193.length) (c := co163) ?_).2.2; exact (rx ((Kd.R_mono (Kd.R_far (p := ⟨gb188, 0, none⟩) (Kd.R_types HO195.out BK188.out (by decide)) (fun _ hk => hk.2) (.slice Ao163 t193.length co163)) (fun _ h_ => h_.1))))); (case side2 => exact (Kd.R_reads' HO195.out).2.1); rintro e w165 ⟨rfl, hb⟩; refine ⟨_, rfl, ?_⟩; replace HO195 := am (Kd.R_below (rx ((Kd.R_mono (Kd.R_far (p := ⟨gb188, 0, none⟩) (Kd.R_types HO195.out BK188.out (by decide)) (fun _ hk => hk.2) (.slice Ao163 t193.length co163)) (fun _ h_ => h_.1)))) hb); replace BK180 := am (bb hb (zf1 BK180.out NB180_188.out)); replace BK181 := am (bb hb (zf1 BK181.out NB181_188.out)); replace BK182 := am (bb hb (zf1 BK182.out NB182_188.out)); replace BK186 := am (bb hb (zf1 BK186.out NB186_188.out)); replace BK188 := am (blk_below (g := gb188) (o := .cells #[.slice Ao163 t193.length co163] 31 (0, 0)) (by (with_reducible repeat (first | refine blk_drewN ?_ _ | refine blk_drew ?_ | refine blk_alloc ?_ _)); refine blk_put (cs := #[.slice none 0 0]) ?_ 0 _ rfl; (with_reducible repeat (first | refine blk_drewN ?_ _ | refine blk_drew ?_ | refine blk_alloc ?_ _)); exact BK188.out) hb); replace HB := am (below_step (zb5 HB.out GE180.out GE181.out GE182.out GE186.out GE188.out) hb); (try clear hb); (try clear hb2); (try clear hk); (try clear hi); obtain ⟨hcz166_0, hfz166_0⟩ := zc1 BK188.out; obtain ⟨hcz167_0, hfz167_0⟩ := zc1 BK182.out))
          refine bodyPost_ret (results_ct rfl _ _ gb182 31 #[.slice Ao163 t193.length co163] (0, 0) _ rfl (by (with_reducible repeat (first | refine blk_drewN ?_ _ | refine blk_drew ?_ | refine blk_alloc ?_ _)); refine blk_put (cs := #[.slice none 0 0]) ?_ 0 _ rfl; (with_reducible repeat (first | refine blk_drewN ?_ _ | refine blk_drew ?_ | refine blk_alloc ?_ _)); exact BK182.out) Try.underlying31 rfl (by kernel_rfl)) rfl ?_
          exact ⟨_, by first | rfl | (simp [errW_none, errW_some] <;> rfl) | (simp [*, errW_none, errW_some] <;> rfl), rx (Kd.R_mono (Kd.R_far (p := ⟨gb182, 0, none⟩) (Kd.R_types HO195.out BK182.out (by decide)) (fun _ hk => hk.2) (.slice Ao163 t193.length co163)) (fun _ hk => trivial)), zb5 HB.out GE180.out GE181.out GE182.out GE186.out GE188.out⟩
         ·replace c146 := Bool.eq_false_iff.mpr c146
          subst c146
          have H1 : (some (([] : List (S66)), false)) = some (r1, r2) := by rw [if_neg (show ¬ (false = true) by decide)] at H; exact H
          clear H
          have H := H1
          clear H1
          simp only [Option.some.injEq, Prod.mk.injEq] at H
          obtain ⟨rfl, rfl⟩ := H
          go_wp2_with (first | ((with_reducible refine gate_dst (N := 8) rfl ?_); refine box_event ?hg (N := 8) ?hd (cs := #[.slice none 0 0]) (t := 31) ?hr ?_; (case hd => rfl); (case hg => rfl); (case hr => first | (go_simp; done) | (go_simp; rfl)); intro gb188 hg w168 hbox hb; have BK188 := am (hbox); have GW188 := zge hg (zb4 HB.out GE180.out GE181.out GE182.out GE186.out); have GE188 := zge hg (zb4 HB.out GE180.out GE181.out GE182.out GE186.out); have NB180_188 := znl hg (kx BK180.out); have NB188_180 := zng hg (kx BK180.out); have NB181_188 := znl hg (kx BK181.out); have NB188_181 := zng hg (kx BK181.out); have NB182_188 := znl hg (kx BK182.out); have NB188_182 := zng hg (kx BK182.out); have NB186_188 := znl hg (kx BK186.out); have NB188_186 := zng hg (kx BK186.out); replace BK180 := am (bb hb (kx BK180.out)); replace BK181 := am (bb hb (kx BK181.out)); replace BK182 := am (bb hb (kx BK182.out)); replace BK186 := am (bb hb (kx BK186.out)); replace HB := am (below_step (zb4 HB.out GE180.out GE181.out GE182.out GE186.out) hb); clear hb hbox hg; have hnb169 := NB188_180.out; have hnc169 := NB180_188.out; have hnb170 := NB188_181.out; have hnc170 := NB181_188.out; have hnb171 := NB188_182.out; have hnc171 := NB182_188.out; have hnb172 := NB188_186.out; have hnc172 := NB186_188.out; obtain ⟨hcz173_0, hfz173_0⟩ := zc1 BK188.out; have hnb174 := NB181_180.out; have hnc174 := NB180_181.out; have hnb175 := NB181_182.out; have hnc175 := NB182_181.out; have hnb176 := NB181_186.out; have hnc176 := NB186_181.out; obtain ⟨hcz177_0, hcz177_1, hcz177_2, hcz177_3, hfz177_0, hfz177_1, hfz177_2, hfz177_3⟩ := zc4 BK181.out; have hnb178 := NB186_180.out; have hnc178 := NB180_186.out; have hnb179 := NB186_182.out; have hnc179 := NB182_186.out; obtain ⟨hcz180_0, hcz180_1, hcz180_2, hfz180_0, hfz180_1, hfz180_2⟩ := zc3 BK186.out; have hnb181 := NB180_182.out; have hnc181 := NB182_180.out; obtain ⟨hcz182_0, hfz182_0⟩ := zc1 BK180.out) | ((with_reducible refine gate_callee (f := 35) rfl ?_); refine goesL_ (some 82) rfl rfl Try.func35 (by kernel_rfl) rfl #[.agg #[.slice A0_0 l0_0.length c0_0], .agg #[.string x187000_59, .string x187001_59, .int .i64 (x187001_59.size : Int)]] rfl zr ?_; (with_reducible refine (spec_l03Put.calls kj59 _ _ l0_0 x187000_59 x187001_59 (x187001_59.size : Int) t193 _ ?side1 ?side2 A144.out).mono ?_); (case side1 => exact Kd.C_below HR0_0.out (zb5 HB.out GE180.out GE181.out GE182.out GE186.out GE188.out)); (case side2 => exact HC0_0.out); rintro e w183 ⟨v194, rfl, ho0, hb⟩; refine ⟨_, rfl, ?_⟩; have HO195 := am (Kd.R_lower (Kd.R_newB ho0 (g := gb186) (o := .cells #[.string x187000_59, .string x187001_59, .int .i64 (x187001_59.size : Int)] 66 (0, 0)) (by (with_reducible repeat (first | refine blk_drewN ?_ _ | refine blk_drew ?_ | refine blk_alloc ?_ _)); refine blk_put (cs := #[.string x187000_59, .string x187001_59, .int .i64 x187002_59]) ?_ 2 _ rfl; (with_reducible repeat (first | refine blk_drewN ?_ _ | refine blk_drew ?_ | refine blk_alloc ?_ _)); refine blk_far ?_ NB186_188.out _; (with_reducible repeat (first | refine blk_drewN ?_ _ | refine blk_drew ?_ | refine blk_alloc ?_ _)); exact BK186.out)) (below_size (zb5 HB.out GE180.out GE181.out GE182.out GE186.out GE188.out))); replace BK180 := am (bb hb (zf2 BK180.out NB180_186.out NB180_188.out)); replace BK181 := am (bb hb (zf2 BK181.out NB181_186.out NB181_188.out)); replace BK182 := am (bb hb (zf2 BK182.out NB182_186.out NB182_188.out)); replace BK186 := am (blk_below (g := gb186) (o := .cells #[.string x187000_59, .string x187001_59, .int .i64 (x187001_59.size : Int)] 66 (0, 0)) (by (with_reducible repeat (first | refine blk_drewN ?_ _ | refine blk_drew ?_ | refine blk_alloc ?_ _)); refine blk_put (cs := #[.string x187000_59, .string x187001_59, .int .i64 x187002_59]) ?_ 2 _ rfl; (with_reducible repeat (first | refine blk_drewN ?_ _ | refine blk_drew ?_ | refine blk_alloc ?_ _)); refine blk_far ?_ NB186_188.out _; (with_reducible repeat (first | refine blk_drewN ?_ _ | refine blk_drew ?_ | refine blk_alloc ?_ _)); exact BK186.out) hb); replace BK188 := am (blk_below (g := gb188) (o := .cells #[.slice none 0 0] 31 (0, 0)) (by (with_reducible repeat (first | refine blk_drewN ?_ _ | refine blk_drew ?_ | refine blk_alloc ?_ _)); refine blk_far ?_ NB188_186.out _; (with_reducible repeat (first | refine blk_drewN ?_ _ | refine blk_drew ?_ | refine blk_alloc ?_ _)); refine blk_put (cs := #[.slice none 0 0]) ?_ 0 _ rfl; (with_reducible repeat (first | refine blk_drewN ?_ _ | refine blk_drew ?_ | refine blk_alloc ?_ _)); exact BK188.out) hb); replace HB := am (below_step (zb5 HB.out GE180.out GE181.out GE182.out GE186.out GE188.out) hb); (try clear hb); (try clear hb2); (try clear hk); (try clear hi); (try clear ho0); obtain ⟨Ao184, co184, eo184⟩ := Kd.R_slice HO195.out; subst eo184; obtain ⟨hcz185_0, hfz185_0⟩ := zc1 BK188.out) | ((with_reducible refine gate_callee (f := 32) rfl ?_); refine goesL_ (some 125) rfl rfl Try.func32 (by kernel_rfl) rfl #[.agg #[.slice Ao184 t193.length co184]] rfl zr ?_; (with_reducible refine (spec_DiskOk.calls kj59 _ _ t193 false _ ?side1 ?side2 A145.out).mono ?_); (case side1 => refine (Kd.R_reads' (e := 66) (base := w.heap.size) (ok := fun k_ => (True ∧ k_ ≠ gb186)) (n := t193.length) (c := co184) ?_).2.2; exact (rx ((Kd.R_mono (Kd.R_far (p := ⟨gb188, 0, none⟩) (Kd.R_types HO195.out BK188.out (by decide)) (fun _ hk => hk.2) (.slice Ao184 t193.length co184)) (fun _ h_ => h_.1))))); (case side2 => exact (Kd.R_reads' HO195.out).2.1); rintro e w186 ⟨rfl, hb⟩; refine ⟨_, rfl, ?_⟩; replace HO195 := am (Kd.R_below (rx ((Kd.R_mono (Kd.R_far (p := ⟨gb188, 0, none⟩) (Kd.R_types HO195.out BK188.out (by decide)) (fun _ hk => hk.2) (.slice Ao184 t193.length co184)) (fun _ h_ => h_.1)))) hb); replace BK180 := am (bb hb (zf1 BK180.out NB180_188.out)); replace BK181 := am (bb hb (zf1 BK181.out NB181_188.out)); replace BK182 := am (bb hb (zf1 BK182.out NB182_188.out)); replace BK186 := am (bb hb (zf1 BK186.out NB186_188.out)); replace BK188 := am (blk_below (g := gb188) (o := .cells #[.slice Ao184 t193.length co184] 31 (0, 0)) (by (with_reducible repeat (first | refine blk_drewN ?_ _ | refine blk_drew ?_ | refine blk_alloc ?_ _)); refine blk_put (cs := #[.slice none 0 0]) ?_ 0 _ rfl; (with_reducible repeat (first | refine blk_drewN ?_ _ | refine blk_drew ?_ | refine blk_alloc ?_ _)); exact BK188.out) hb); replace HB := am (below_step (zb5 HB.out GE180.out GE181.out GE182.out GE186.out GE188.out) hb); (try clear hb); (try clear hb2); (try clear hk); (try clear hi); obtain ⟨hcz187_0, hfz187_0⟩ := zc1 BK182.out))
          refine bodyPost_ret (results_ct rfl _ _ gb182 31 #[.slice none 0 0] (0, 0) _ rfl (by (with_reducible repeat (first | refine blk_drewN ?_ _ | refine blk_drew ?_ | refine blk_alloc ?_ _)); refine blk_put (cs := #[.slice none 0 0]) ?_ 0 _ rfl; (with_reducible repeat (first | refine blk_drewN ?_ _ | refine blk_drew ?_ | refine blk_alloc ?_ _)); exact BK182.out) Try.underlying31 rfl (by kernel_rfl)) rfl ?_
          exact ⟨_, by first | rfl | (simp [errW_none, errW_some] <;> rfl) | (simp [*, errW_none, errW_some] <;> rfl), by first | exact Kd.R_nil _ _ _ _ _ | exact Kd.N_nil _ _ _ _ _ | exact Kd.V_nil _ _ _ _ _ | exact Kd.Q_nil _ _ _ _ _ | exact Kd.S_nil _ _ _ _ _, zb5 HB.out GE180.out GE181.out GE182.out GE186.out GE188.out⟩
        ·rw [if_neg c143] at H
         have c143b0 : (a1_0 == 2) = false := beq_eq_false_iff_ne.mpr c143
         have c143b1 : (a1_0 != 2) = true := bne_iff_ne.mpr c143
         by_cases c188 : a1_0 = 3
         ·rw [if_pos c188] at H
          have c188b0 : (a1_0 == 3) = true := beq_iff_eq.mpr c188
          have c188b1 : (a1_0 != 3) = false := bne_eq_false_iff_eq.mpr c188
          clear c188
          have HC189 := Aside0.mk H
          clear H
          go_upto_region 18 with (first | ((with_reducible refine gate_dst (N := 8) rfl ?_); refine box_event ?hg (N := 8) ?hd (cs := #[.slice none 0 0]) (t := 31) ?hr ?_; (case hd => rfl); (case hg => rfl); (case hr => first | (go_simp; done) | (go_simp; rfl)); intro gb188 hg w190 hbox hb; have BK188 := am (hbox); have GW188 := zge hg (zb4 HB.out GE180.out GE181.out GE182.out GE186.out); have GE188 := zge hg (zb4 HB.out GE180.out GE181.out GE182.out GE186.out); have NB180_188 := znl hg (kx BK180.out); have NB188_180 := zng hg (kx BK180.out); have NB181_188 := znl hg (kx BK181.out); have NB188_181 := zng hg (kx BK181.out); have NB182_188 := znl hg (kx BK182.out); have NB188_182 := zng hg (kx BK182.out); have NB186_188 := znl hg (kx BK186.out); have NB188_186 := zng hg (kx BK186.out); replace BK180 := am (bb hb (kx BK180.out)); replace BK181 := am (bb hb (kx BK181.out)); replace BK182 := am (bb hb (kx BK182.out)); replace BK186 := am (bb hb (kx BK186.out)); replace HB := am (below_step (zb4 HB.out GE180.out GE181.out GE182.out GE186.out) hb); clear hb hbox hg; have hnb191 := NB188_180.out; have hnc191 := NB180_188.out; have hnb192 := NB188_181.out; have hnc192 := NB181_188.out; have hnb193 := NB188_182.out; have hnc193 := NB182_188.out; have hnb194 := NB188_186.out; have hnc194 := NB186_188.out; obtain ⟨hcz195_0, hfz195_0⟩ := zc1 BK188.out; have hnb196 := NB181_180.out; have hnc196 := NB180_181.out; have hnb197 := NB181_182.out; have hnc197 := NB182_181.out; have hnb198 := NB181_186.out; have hnc198 := NB186_181.out; obtain ⟨hcz199_0, hcz199_1, hcz199_2, hcz199_3, hfz199_0, hfz199_1, hfz199_2, hfz199_3⟩ := zc4 BK181.out))
          (try simp only [Act.put, List.setIfInBounds_toArray, List.set_cons_zero, List.set_cons_succ])
          go_cut [105] (fun v105 wc => ∃ (kq : Nat) (x105_188 : Bool), v105 = .bool x105_188 ∧ Aside0 (spec_DoAct.j2 kq x105_188 l0_0 a1_0 a1_1 a1_2 a1_3 x187000_59 x187001_59 x187002_59 = some (r1, r2)) ∧ Aside0 (kq ≤ kj59) ∧ Aside0 (wc.heap[gb180]? = some (.cells #[(.slice A0_0 l0_0.length c0_0)] 31 (0, 0))) ∧ Aside0 (wc.heap[gb181]? = some (.cells #[.int .i64 a1_0, .string a1_1, .string a1_2, .string a1_3] 35 (0, 0))) ∧ Aside0 (wc.heap[gb182]? = some (.cells #[(.slice none 0 0)] 31 (0, 0))) ∧ Aside0 (wc.heap[gb186]? = some (.cells #[.string x187000_59, .string x187001_59, .int .i64 x187002_59] 66 (0, 0))) ∧ Aside0 (wc.heap[gb188]? = some (.cells #[(.slice none 0 0)] 31 (0, 0))) ∧ Aside0 (Below w.heap.size w wc))
          case first =>
           have H := HC189.out
           clear HC189
           by_cases c200 : x187002_59 < (x187001_59.size : Int)
           ·rw [if_pos c200] at H
            have c200b0 : decide (x187002_59 < (x187001_59.size : Int)) = true := decide_eq_true c200
            have c200b1 : decide ((x187001_59.size : Int) ≤ x187002_59) = false := decide_eq_false (by omega)
            clear c200
            (first | rw [c200b0] | (simp only [i64_w, i32_w]; rw [c200b0]) | skip)
            have H' := Aside0.mk H
            clear H
            have hnb201 := NB186_180.out
            have hnc201 := NB180_186.out
            have hnb202 := NB186_181.out
            have hnc202 := NB181_186.out
            have hnb203 := NB186_182.out
            have hnc203 := NB182_186.out
            have hnb204 := NB186_188.out
            have hnc204 := NB188_186.out
            obtain ⟨hcz205_0, hcz205_1, hcz205_2, hfz205_0, hfz205_1, hfz205_2⟩ := zc3 BK186.out
            go_wp2
            go_meet
            case rel => exact ⟨_, (true), (by first | rfl | (simp; done) | (simp [*]; done)), H', ⟨by have := HJ2.out; have := HJ59.out; first | omega | exact Nat.le_refl _⟩, ⟨zf1 BK180.out NB180_188.out⟩, ⟨zf1 BK181.out NB181_188.out⟩, ⟨zf1 BK182.out NB182_188.out⟩, ⟨zf1 BK186.out NB186_188.out⟩, ⟨by (with_reducible repeat (first | refine blk_drewN ?_ _ | refine blk_drew ?_ | refine blk_alloc ?_ _)); refine blk_put (cs := #[.slice none 0 0]) ?_ 0 _ rfl; (with_reducible repeat (first | refine blk_drewN ?_ _ | refine blk_drew ?_ | refine blk_alloc ?_ _)); exact BK188.out⟩, ⟨zb5 HB.out GE180.out GE181.out GE182.out GE186.out GE188.out⟩⟩
           ·rw [if_neg c200] at H
            have c200b0 : decide (x187002_59 < (x187001_59.size : Int)) = false := decide_eq_false c200
            have c200b1 : decide ((x187001_59.size : Int) ≤ x187002_59) = true := decide_eq_true (by omega)
            clear c200
            (first | rw [c200b0] | (simp only [i64_w, i32_w]; rw [c200b0]) | skip)
            by_cases c206 : a1_3.toList = a1_1.toList
            ·rw [if_pos c206] at H
             have c206b0 : (a1_3.toList == a1_1.toList) = true := beq_iff_eq.mpr c206
             have c206b1 : (a1_3.toList != a1_1.toList) = false := bne_eq_false_iff_eq.mpr c206
             clear c206
             have H' := Aside0.mk H
             clear H
             have hnb207 := NB186_180.out
             have hnc207 := NB180_186.out
             have hnb208 := NB186_181.out
             have hnc208 := NB181_186.out
             have hnb209 := NB186_182.out
             have hnc209 := NB182_186.out
             have hnb210 := NB186_188.out
             have hnc210 := NB188_186.out
             obtain ⟨hcz211_0, hcz211_1, hcz211_2, hfz211_0, hfz211_1, hfz211_2⟩ := zc3 BK186.out
             have hnb212 := NB181_180.out
             have hnc212 := NB180_181.out
             have hnb213 := NB181_182.out
             have hnc213 := NB182_181.out
             have hnb214 := NB181_188.out
             have hnc214 := NB188_181.out
             obtain ⟨hcz215_0, hcz215_1, hcz215_2, hcz215_3, hfz215_0, hfz215_1, hfz215_2, hfz215_3⟩ := zc4 BK181.out
             go_wp2
             go_meet
             case rel => exact ⟨_, (true), (by first | rfl | (simp; done) | (simp [*]; done)), H', ⟨by have := HJ2.out; have := HJ59.out; first | omega | exact Nat.le_refl _⟩, ⟨zf1 BK180.out NB180_188.out⟩, ⟨zf1 BK181.out NB181_188.out⟩, ⟨zf1 BK182.out NB182_188.out⟩, ⟨zf1 BK186.out NB186_188.out⟩, ⟨by (with_reducible repeat (first | refine blk_drewN ?_ _ | refine blk_drew ?_ | refine blk_alloc ?_ _)); refine blk_put (cs := #[.slice none 0 0]) ?_ 0 _ rfl; (with_reducible repeat (first | refine blk_drewN ?_ _ | refine blk_drew ?_ | refine blk_alloc ?_ _)); exact BK188.out⟩, ⟨zb5 HB.out GE180.out GE181.out GE182.out GE186.out GE188.out⟩⟩
            ·rw [if_neg c206] at H
             have c206b0 : (a1_3.toList == a1_1.toList) = false := beq_eq_false_iff_ne.mpr c206
             have c206b1 : (a1_3.toList != a1_1.toList) = true := bne_iff_ne.mpr c206
             replace H := Option.bind_eq_some_iff.mp H
             obtain ⟨t197, A2160, H⟩ := H
             try dsimp only at H
             have A216 := Aside0.mk A2160
             clear A2160
             have H' := Aside0.mk H
             clear H
             have hnb217 := NB186_180.out
             have hnc217 := NB180_186.out
             have hnb218 := NB186_181.out
             have hnc218 := NB181_186.out
             have hnb219 := NB186_182.out
             have hnc219 := NB182_186.out
             have hnb220 := NB186_188.out
             have hnc220 := NB188_186.out
             obtain ⟨hcz221_0, hcz221_1, hcz221_2, hfz221_0, hfz221_1, hfz221_2⟩ := zc3 BK186.out
             have hnb222 := NB181_180.out
             have hnc222 := NB180_181.out
             have hnb223 := NB181_182.out
             have hnc223 := NB182_181.out
             have hnb224 := NB181_188.out
             have hnc224 := NB188_181.out
             obtain ⟨hcz225_0, hcz225_1, hcz225_2, hcz225_3, hfz225_0, hfz225_1, hfz225_2, hfz225_3⟩ := zc4 BK181.out
             go_wp2_with (first | (go_at_call 33; (with_reducible refine (spec_l03Name.calls a1_3 t197 _ A216.out).mono ?_); rintro e w' ⟨rfl, ⟨nd, rfl⟩⟩))
             go_meet
             case rel => exact ⟨_, (!t197), (by first | rfl | (simp; done) | (simp [*]; done)), H', ⟨by have := HJ2.out; have := HJ59.out; first | omega | exact Nat.le_refl _⟩, ⟨zf1 BK180.out NB180_188.out⟩, ⟨zf1 BK181.out NB181_188.out⟩, ⟨zf1 BK182.out NB182_188.out⟩, ⟨zf1 BK186.out NB186_188.out⟩, ⟨by (with_reducible repeat (first | refine blk_drewN ?_ _ | refine blk_drew ?_ | refine blk_alloc ?_ _)); refine blk_put (cs := #[.slice none 0 0]) ?_ 0 _ rfl; (with_reducible repeat (first | refine blk_drewN ?_ _ | refine blk_drew ?_ | refine blk_alloc ?_ _)); exact BK188.out⟩, ⟨zb5 HB.out GE180.out GE181.out GE182.out GE186.out GE188.out⟩⟩
          case rest =>
           clear HC189
           try clear c1
           try clear p1
           try clear q1
           try clear hx1
           try clear c2
           try clear p2
           try clear c3
           try clear c4
           try clear c5
           try clear c6
           try clear c7
           try clear c8
           try clear c9
           try clear c10
           try clear c11
           try clear c11b0
           try clear c11b1
           try clear c12
           try clear c12b0
           try clear c12b1
           try clear c13
           try clear c14
           try clear c15
           try clear c16
           try clear c17
           try clear c18
           try clear p18
           try clear q18
           try clear hx18
           try clear c19
           try clear c20
           try clear c21
           try clear c22
           try clear c23
           try clear c25
           try clear c25b0
           try clear c25b1
           try clear c26
           try clear c26b0
           try clear c26b1
           try clear c27
           try clear c28
           try clear c31
           try clear c32
           try clear c33
           try clear c34
           try clear c35
           try clear c37
           try clear c39
           try clear c40
           try clear c43
           try clear c45
           try clear c46
           try clear c49
           try clear c51
           try clear c52
           try clear c55
           try clear c56
           try clear c57
           try clear c61
           try clear c62
           try clear c64
           try clear c69
           try clear c70
           try clear c71
           try clear c73
           try clear c73b0
           try clear c74
           try clear c74b0
           try clear c75
           try clear c75b0
           try clear c75b1
           try clear c76
           try clear c77
           try clear c78
           try clear c80
           try clear c81
           try clear c83
           try clear c83b0
           try clear c83b1
           try clear c84
           try clear c84b0
           try clear c84b1
           try clear c84b2
           try clear c87
           try clear c89
           try clear c90
           try clear c91
           try clear c92
           try clear c94
           try clear c95
           try clear c96
           try clear c98
           try clear c99
           try clear c101
           try clear c110
           try clear c111
           try clear c112
           try clear c113
           try clear c115
           try clear c116
           try clear c117
           try clear c119
           try clear c120
           try clear c122
           try clear c129
           try clear c129b0
           try clear c131
           try clear c132
           try clear c133
           try clear c134
           try clear c136
           try clear c137
           try clear c138
           try clear c140
           try clear c141
           try clear c143
           try clear c143b0
           try clear c143b1
           try clear c146
           try clear c148
           try clear c149
           try clear c150
           try clear c151
           try clear c153
           try clear c154
           try clear c155
           try clear c157
           try clear c158
           try clear c160
           try clear c169
           try clear c170
           try clear c171
           try clear c172
           try clear c174
           try clear c175
           try clear c176
           try clear c178
           try clear c179
           try clear c181
           try clear p187
           try clear q187
           try clear hx187
           try clear c188
           try clear c188b0
           try clear c188b1
           try clear c191
           try clear c192
           try clear c193
           try clear c194
           try clear c196
           try clear c197
           try clear c198
           try clear c200
           try clear c200b0
           try clear c200b1
           try clear c201
           try clear c202
           try clear c203
           try clear c204
           try clear c206
           try clear c206b0
           try clear c206b1
           try clear c207
           try clear c208
           try clear c209
           try clear c210
           try clear c212
           try clear c213
           try clear c214
           try clear c217
           try clear c218
           try clear c219
           try clear c220
           try clear c222
           try clear c223
           try clear c224
           try clear hcz100_0
           try clear hcz100_1
           try clear hcz100_2
           try clear hcz102_0
           try clear hcz105_0
           try clear hcz107_0
           try clear hcz108_0
           try clear hcz114_0
           try clear hcz118_0
           try clear hcz118_1
           try clear hcz118_2
           try clear hcz118_3
           try clear hcz121_0
           try clear hcz121_1
           try clear hcz121_2
           try clear hcz123_0
           try clear hcz126_0
           try clear hcz128_0
           try clear hcz135_0
           try clear hcz139_0
           try clear hcz139_1
           try clear hcz139_2
           try clear hcz139_3
           try clear hcz142_0
           try clear hcz152_0
           try clear hcz156_0
           try clear hcz156_1
           try clear hcz156_2
           try clear hcz156_3
           try clear hcz159_0
           try clear hcz159_1
           try clear hcz159_2
           try clear hcz15_0
           try clear hcz161_0
           try clear hcz164_0
           try clear hcz166_0
           try clear hcz167_0
           try clear hcz173_0
           try clear hcz177_0
           try clear hcz177_1
           try clear hcz177_2
           try clear hcz177_3
           try clear hcz180_0
           try clear hcz180_1
           try clear hcz180_2
           try clear hcz182_0
           try clear hcz185_0
           try clear hcz187_0
           try clear hcz18_0
           try clear hcz18_1
           try clear hcz18_2
           try clear hcz18_3
           try clear hcz195_0
           try clear hcz199_0
           try clear hcz199_1
           try clear hcz199_2
           try clear hcz199_3
           try clear hcz205_0
           try clear hcz205_1
           try clear hcz205_2
           try clear hcz211_0
           try clear hcz211_1
           try clear hcz211_2
           try clear hcz215_0
           try clear hcz215_1
           try clear hcz215_2
           try clear hcz215_3
           try clear hcz21_0
           try clear hcz221_0
           try clear hcz221_1
           try clear hcz221_2
           try clear hcz225_0
           try clear hcz225_1
           try clear hcz225_2
           try clear hcz225_3
           try clear hcz24_0
           try clear hcz24_1
           try clear hcz24_2
           try clear hcz24_3
           try clear hcz29_0
           try clear hcz32_0
           try clear hcz32_1
           try clear hcz32_2
           try clear hcz32_3
           try clear hcz35_0
           try clear hcz38_0
           try clear hcz38_1
           try clear hcz38_2
           try clear hcz38_3
           try clear hcz41_0
           try clear hcz44_0
           try clear hcz44_1
           try clear hcz44_2
           try clear hcz44_3
           try clear hcz47_0
           try clear hcz50_0
           try clear hcz50_1
           try clear hcz50_2
           try clear hcz50_3
           try clear hcz53_0
           try clear hcz58_0
           try clear hcz63_0
           try clear hcz65_0
           try clear hcz65_1
           try clear hcz65_2
           try clear hcz65_3
           try clear hcz67_0
           try clear hcz67_1
           try clear hcz67_2
           try clear hcz67_3
           try clear hcz72_0
           try clear hcz72_1
           try clear hcz72_2
           try clear hcz79_0
           try clear hcz82_0
           try clear hcz82_1
           try clear hcz82_2
           try clear hcz93_0
           try clear hcz97_0
           try clear hcz97_1
           try clear hcz97_2
           try clear hcz97_3
           try clear hfz100_0
           try clear hfz100_1
           try clear hfz100_2
           try clear hfz102_0
           try clear hfz105_0
           try clear hfz107_0
           try clear hfz108_0
           try clear hfz114_0
           try clear hfz118_0
           try clear hfz118_1
           try clear hfz118_2
           try clear hfz118_3
           try clear hfz121_0
           try clear hfz121_1
           try clear hfz121_2
           try clear hfz123_0
           try clear hfz126_0
           try clear hfz128_0
           try clear hfz135_0
           try clear hfz139_0
           try clear hfz139_1
           try clear hfz139_2
           try clear hfz139_3
           try clear hfz142_0
           try clear hfz152_0
           try clear hfz156_0
           try clear hfz156_1
           try clear hfz156_2
           try clear hfz156_3
           try clear hfz159_0
           try clear hfz159_1
           try clear hfz159_2
           try clear hfz15_0
           try clear hfz161_0
           try clear hfz164_0
           try clear hfz166_0
           try clear hfz167_0
           try clear hfz173_0
           try clear hfz177_0
           try clear hfz177_1
           try clear hfz177_2
           try clear hfz177_3
           try clear hfz180_0
           try clear hfz180_1
           try clear hfz180_2
           try clear hfz182_0
           try clear hfz185_0
           try clear hfz187_0
           try clear hfz18_0
           try clear hfz18_1
           try clear hfz18_2
           try clear hfz18_3
           try clear hfz195_0
           try clear hfz199_0
           try clear hfz199_1
           try clear hfz199_2
           try clear hfz199_3
           try clear hfz205_0
           try clear hfz205_1
           try clear hfz205_2
           try clear hfz211_0
           try clear hfz211_1
           try clear hfz211_2
           try clear hfz215_0
           try clear hfz215_1
           try clear hfz215_2
           try clear hfz215_3
           try clear hfz21_0
           try clear hfz221_0
           try clear hfz221_1
           try clear hfz221_2
           try clear hfz225_0
           try clear hfz225_1
           try clear hfz225_2
           try clear hfz225_3
           try clear hfz24_0
           try clear hfz24_1
           try clear hfz24_2
           try clear hfz24_3
           try clear hfz29_0
           try clear hfz32_0
           try clear hfz32_1
           try clear hfz32_2
           try clear hfz32_3
           try clear hfz35_0
           try clear hfz38_0
           try clear hfz38_1
           try clear hfz38_2
           try clear hfz38_3
           try clear hfz41_0
           try clear hfz44_0
           try clear hfz44_1
           try clear hfz44_2
           try clear hfz44_3
           try clear hfz47_0
           try clear hfz50_0
           try clear hfz50_1
           try clear hfz50_2
           try clear hfz50_3
           try clear hfz53_0
           try clear hfz58_0
           try clear hfz63_0
           try clear hfz65_0
           try clear hfz65_1
           try clear hfz65_2
           try clear hfz65_3
           try clear hfz67_0
           try clear hfz67_1
           try clear hfz67_2
           try clear hfz67_3
           try clear hfz72_0
           try clear hfz72_1
           try clear hfz72_2
           try clear hfz79_0
           try clear hfz82_0
           try clear hfz82_1
           try clear hfz82_2
           try clear hfz93_0
           try clear hfz97_0
           try clear hfz97_1
           try clear hfz97_2
           try clear hfz97_3
           try clear hx187_0
           try clear hx187_1
           try clear hx187_2
           try clear p1
           try clear p18
           try clear p187
           try clear p2
           try clear q1
           try clear q18
           try clear q187
           obtain ⟨kq, x105_188, rfl, HA, HJ188, BK180, BK181, BK182, BK186, BK188, HB⟩ := hcut
           cases kq with
           | zero => exact absurd HA.out (by simp [spec_DoAct.j2])
           | succ kj188 =>
            have H := HA.out
            clear HA
            simp only [spec_DoAct.j2] at H
            by_cases c226 : x105_188 = true
            ·subst c226
             have H1 : (some (([] : List (S66)), false)) = some (r1, r2) := by rw [if_pos rfl] at H; exact H
             clear H
             have H := H1
             clear H1
             simp only [Option.some.injEq, Prod.mk.injEq] at H
             obtain ⟨rfl, rfl⟩ := H
             have hnb227 := NB182_180.out
             have hnc227 := NB180_182.out
             have hnb228 := NB182_181.out
             have hnc228 := NB181_182.out
             have hnb229 := NB182_186.out
             have hnc229 := NB186_182.out
             have hnb230 := NB182_188.out
             have hnc230 := NB188_182.out
             obtain ⟨hcz231_0, hfz231_0⟩ := zc1 BK182.out
             go_wp2
             refine bodyPost_ret (results_ct rfl _ _ gb182 31 #[.slice none 0 0] (0, 0) _ rfl (by (with_reducible repeat (first | refine blk_drewN ?_ _ | refine blk_drew ?_ | refine blk_alloc ?_ _)); refine blk_put (cs := #[.slice none 0 0]) ?_ 0 _ rfl; (with_reducible repeat (first | refine blk_drewN ?_ _ | refine blk_drew ?_ | refine blk_alloc ?_ _)); exact BK182.out) Try.underlying31 rfl (by kernel_rfl)) rfl ?_
             exact ⟨_, by first | rfl | (simp [errW_none, errW_some] <;> rfl) | (simp [*, errW_none, errW_some] <;> rfl), by first | exact Kd.R_nil _ _ _ _ _ | exact Kd.N_nil _ _ _ _ _ | exact Kd.V_nil _ _ _ _ _ | exact Kd.Q_nil _ _ _ _ _ | exact Kd.S_nil _ _ _ _ _, zb5 HB.out GE180.out GE181.out GE182.out GE186.out GE188.out⟩
            ·replace c226 := Bool.eq_false_iff.mpr c226
             subst c226
             have H1 : ((spec_l03Without.f kj188 l0_0 a1_1).bind fun t198 => ((spec_l03Put.f kj188 t198 a1_3 x187001_59 x187002_59).bind fun t201 => ((spec_DiskOk.f kj188 t201).bind fun t204 => (if t204 = true then (some (t201, true)) else (some (([] : List (S66)), false)))))) = some (r1, r2) := by rw [if_neg (show ¬ (false = true) by decide)] at H; exact H
             clear H
             have H := H1
             clear H1
             replace H := Option.bind_eq_some_iff.mp H
             obtain ⟨t198, A2320, H⟩ := H
             try dsimp only at H
             have A232 := Aside0.mk A2320
             clear A2320
             replace H := Option.bind_eq_some_iff.mp H
             obtain ⟨t201, A2330, H⟩ := H
             try dsimp only at H
             have A233 := Aside0.mk A2330
             clear A2330
             replace H := Option.bind_eq_some_iff.mp H
             obtain ⟨t204, A2340, H⟩ := H
             try dsimp only at H
             have A234 := Aside0.mk A2340
             clear A2340
             by_cases c235 : t204 = true
             ·subst c235
              have H1 : (some (t201, true)) = some (r1, r2) := by rw [if_pos rfl] at H; exact H
              clear H
              have H := H1
              clear H1
              simp only [Option.some.injEq, Prod.mk.injEq] at H
              obtain ⟨rfl, rfl⟩ := H
              have hnb236 := NB181_180.out
              have hnc236 := NB180_181.out
              have hnb237 := NB181_182.out
              have hnc237 := NB182_181.out
              have hnb238 := NB181_186.out
              have hnc238 := NB186_181.out
              have hnb239 := NB181_188.out
              have hnc239 := NB188_181.out
              obtain ⟨hcz240_0, hcz240_1, hcz240_2, hcz240_3, hfz240_0, hfz240_1, hfz240_2, hfz240_3⟩ := zc4 BK181.out
              have hnb241 := NB186_180.out
              have hnc241 := NB180_186.out
              have hnb242 := NB186_182.out
              have hnc242 := NB182_186.out
              have hnb243 := NB186_188.out
              have hnc243 := NB188_186.out
              obtain ⟨hcz244_0, hcz244_1, hcz244_2, hfz244_0, hfz244_1, hfz244_2⟩ := zc3 BK186.out
              try go_wp2
              have n0_ : Aside0 ((wc.setCell ⟨gb186, 0, none⟩ (.string a1_3)).heap[gb180]? = some (.cells #[.slice A0_0 l0_0.length c0_0] 31 (0, 0))) := ⟨zf1 BK180.out NB180_186.out⟩
              have n1_ : Aside0 ((wc.setCell ⟨gb186, 0, none⟩ (.string a1_3)).heap[gb181]? = some (.cells #[.int .i64 a1_0, .string a1_1, .string a1_2, .string a1_3] 35 (0, 0))) := ⟨zf1 BK181.out NB181_186.out⟩
              have n2_ : Aside0 ((wc.setCell ⟨gb186, 0, none⟩ (.string a1_3)).heap[gb182]? = some (.cells #[.slice none 0 0] 31 (0, 0))) := ⟨zf1 BK182.out NB182_186.out⟩
              have n3_ : Aside0 ((wc.setCell ⟨gb186, 0, none⟩ (.string a1_3)).heap[gb186]? = some (.cells #[.string a1_3, .string x187001_59, .int .i64 x187002_59] 66 (0, 0))) := ⟨by (with_reducible repeat (first | refine blk_drewN ?_ _ | refine blk_drew ?_ | refine blk_alloc ?_ _)); refine blk_put (cs := #[.string x187000_59, .string x187001_59, .int .i64 x187002_59]) ?_ 0 _ rfl; (with_reducible repeat (first | refine blk_drewN ?_ _ | refine blk_drew ?_ | refine blk_alloc ?_ _)); exact BK186.out⟩
              have n4_ : Aside0 ((wc.setCell ⟨gb186, 0, none⟩ (.string a1_3)).heap[gb188]? = some (.cells #[.slice none 0 0] 31 (0, 0))) := ⟨zf1 BK188.out NB188_186.out⟩
              have n5_ : Aside0 (Below w.heap.size w (wc.setCell ⟨gb186, 0, none⟩ (.string a1_3))) := ⟨zb5 HB.out GE180.out GE181.out GE182.out GE186.out GE188.out⟩
              try clear BK180
              try clear BK181
              try clear BK182
              try clear BK186
              try clear BK188
              try clear HB
              generalize (wc.setCell ⟨gb186, 0, none⟩ (.string a1_3)) = w245 at n0_ n1_ n2_ n3_ n4_ n5_ ⊢
              have BK180 := n0_
              have BK181 := n1_
              have BK182 := n2_
              have BK186 := n3_
              have BK188 := n4_
              have HB := n5_
              clear n0_ n1_ n2_ n3_ n4_ n5_
              replace BK180 := am (blk_drew BK180.out)
              replace BK181 := am (blk_drew BK181.out)
              replace BK182 := am (blk_drew BK182.out)
              replace BK186 := am (blk_drew BK186.out)
              replace BK188 := am (blk_drew BK188.out)
              replace HB := am (below_drew1 HB.out)
              refine start_ (n := 7) (S := fun w' => w'.cell? ⟨gb180, 0, none⟩ = some (.slice A0_0 l0_0.length c0_0) ∧ w'.cell? ⟨gb181, 0, none⟩ = some (.int .i64 a1_0) ∧ w'.cell? ⟨gb181, 1, none⟩ = some (.string a1_1) ∧ w'.cell? ⟨gb181, 2, none⟩ = some (.string a1_2) ∧ w'.cell? ⟨gb181, 3, none⟩ = some (.string a1_3) ∧ w'.cell? ⟨gb186, 0, none⟩ = some (.string a1_3) ∧ w'.cell? ⟨gb186, 1, none⟩ = some (.string x187001_59) ∧ w'.cell? ⟨gb186, 2, none⟩ = some (.int .i64 x187002_59)) (ds := []) #[false, false, false, false, false, false, false] (by kernel_rfl) rfl rfl ⟨ct BK180.out 0, ct BK181.out 0, ct BK181.out 1, ct BK181.out 2, ct BK181.out 3, ct BK186.out 0, ct BK186.out 1, ct BK186.out 2⟩ (fun hHeld => ?_)
              generalize w245.drew = w246 at BK180 BK181 BK182 BK186 BK188 HB hHeld ⊢
              refine pure_ (i := 1) (N := some 111) (v := ?_) (a' := ?_) #[false, true, false, false, false, false, false] rfl rfl (by kernel_rfl) (fun _ _ _ h => h) (Or.inl ⟨by rfl, ?_⟩) ?_ ?_
              rotate_left
              ·intro w'
               go_simp
               with_reducible rfl
              rotate_left
              ·simp only [Act.put, List.setIfInBounds_toArray, List.set_cons_zero, List.set_cons_succ, i64_w, i32_w]
               rfl
              refine take_ (i := 0) (N := some 110) (v := ?_) (a' := ?_) #[true, true, false, false, false, false, false] rfl rfl (by kernel_rfl) (fun _ _ _ h => h) (Or.inl ⟨by rfl, ?_⟩) hHeld ?_ ?_
              rotate_left
              ·rintro w' ⟨s0, s1, s2, s3, s4, s5, s6, s7⟩
               go_simp
               with_reducible rfl
              rotate_left
              ·simp only [Act.put, List.setIfInBounds_toArray, List.set_cons_zero, List.set_cons_succ, i64_w, i32_w]
               rfl
              refine take_ (i := 2) (N := some 112) (v := ?_) (a' := ?_) #[true, true, true, false, false, false, false] rfl rfl (by kernel_rfl) (fun _ _ _ h => h) (Or.inl ⟨by rfl, ?_⟩) hHeld ?_ ?_
              rotate_left
              ·rintro w' ⟨s0, s1, s2, s3, s4, s5, s6, s7⟩
               go_simp
               with_reducible rfl
              rotate_left
              ·simp only [Act.put, List.setIfInBounds_toArray, List.set_cons_zero, List.set_cons_succ, i64_w, i32_w]
               rfl
              refine take_ (i := 4) (N := some 114) (v := ?_) (a' := ?_) #[true, true, true, false, true, false, false] rfl rfl (by kernel_rfl) (fun _ _ _ h => h) (Or.inl ⟨by rfl, ?_⟩) hHeld ?_ ?_
              rotate_left
              ·rintro w' ⟨s0, s1, s2, s3, s4, s5, s6, s7⟩
               go_simp
               with_reducible rfl
              rotate_left
              ·simp only [Act.put, List.setIfInBounds_toArray, List.set_cons_zero, List.set_cons_succ, i64_w, i32_w]
               rfl
              refine one_ (i := 3) (N := some 113) #[true, true, true, true, true, false, false] rfl rfl (by kernel_rfl) (by decide) (fun K hK => ?_)
              refine goes_ Try.func36 (by kernel_rfl) rfl #[.agg #[.slice A0_0 l0_0.length c0_0], .string a1_1] (by rfl) rfl rfl zr ?_
              with_reducible refine (spec_l03Without.calls kj188 _ _ l0_0 a1_1 t198 _ ?side1 ?side2 A232.out).mono ?_
              (case side1 => repeat (first | exact (Kd.C_below HR0_0.out HB.out) | (with_reducible refine Kd.C_alloc ?_ _) | (with_reducible refine Kd.C_drewN ?_ _) | (with_reducible refine Kd.C_drew ?_)))
              (case side2 => exact HC0_0.out)
              rintro e w247 ⟨v199, rfl, ho0, hb⟩
              refine ⟨_, rfl, ?_⟩
              have HO200 := am (Kd.R_lower (Kd.R_newB ho0 (g := gb186) (o := .cells #[.string a1_3, .string x187001_59, .int .i64 x187002_59] 66 (0, 0)) (kx BK186.out)) (below_size (zb5 HB.out GE180.out GE181.out GE182.out GE186.out GE188.out)))
              replace BK180 := am (bb hb (kx BK180.out))
              replace BK181 := am (bb hb (kx BK181.out))
              replace BK182 := am (bb hb (kx BK182.out))
              replace BK186 := am (bb hb (kx BK186.out))
              replace BK188 := am (bb hb (kx BK188.out))
              replace HB := am (below_step (zb5 HB.out GE180.out GE181.out GE182.out GE186.out GE188.out) hb)
              try clear hb
              try clear hb2
              try clear hk
              try clear hi
              try clear ho0
              obtain ⟨Ao248, co248, eo248⟩ := Kd.R_slice HO200.out
              (first | subst eo248 | (injection eo248 with f1_ f2_ f3_; have f4_ := f1_.symm; have f5_ := f3_.symm; clear f1_ f2_ f3_; subst f4_; subst f5_))
              refine hK.out _ _ ⟨ct BK180.out 0, ct BK181.out 0, ct BK181.out 1, ct BK181.out 2, ct BK181.out 3, ct BK186.out 0, ct BK186.out 1, ct BK186.out 2⟩ (fun hHeld => ?_)
              clear hK K
              refine norm_ (a' := ?_) ?_ ?_
              rotate_left
              ·show Act.put _ (some 113) _ = _
               simp only [Act.put, List.setIfInBounds_toArray, List.set_cons_zero, List.set_cons_succ, i64_w, i32_w]
               rfl
              refine one_ (i := 5) (N := some 115) #[true, true, true, true, true, true, false] rfl rfl (by kernel_rfl) (by decide) (fun K hK => ?_)
              refine goes_ Try.func35 (by kernel_rfl) rfl #[.agg #[.slice Ao248 t198.length co248], .agg #[.string a1_3, .string x187001_59, .int .i64 x187002_59]] (by rfl) rfl rfl zr ?_
              with_reducible refine (spec_l03Put.calls kj188 _ _ t198 a1_3 x187001_59 x187002_59 t201 _ ?side1 ?side2 A233.out).mono ?_
              (case side1 => repeat (first | exact (Kd.R_reads' HO200.out).2.2 | (with_reducible refine Kd.C_alloc ?_ _) | (with_reducible refine Kd.C_drewN ?_ _) | (with_reducible refine Kd.C_drew ?_)))
              (case side2 => exact (Kd.R_reads' HO200.out).2.1)
              rintro e w249 ⟨v202, rfl, ho0, hb⟩
              refine ⟨_, rfl, ?_⟩
              have HO203 := am (Kd.R_lower (Kd.R_newB (Kd.R_new' ho0 (Kd.R_lt (rx HO200.out))) (g := gb186) (o := .cells #[.string a1_3, .string x187001_59, .int .i64 x187002_59] 66 (0, 0)) (kx BK186.out)) (below_size (zb5 HB.out GE180.out GE181.out GE182.out GE186.out GE188.out)))
              replace HO200 := am (Kd.R_elder' (rx HO200.out) (Kd.R_base ho0) hb)
              replace BK180 := am (bb hb (kx BK180.out))
              replace BK181 := am (bb hb (kx BK181.out))
              replace BK182 := am (bb hb (kx BK182.out))
              replace BK186 := am (bb hb (kx BK186.out))
              replace BK188 := am (bb hb (kx BK188.out))
              replace HB := am (below_step (zb5 HB.out GE180.out GE181.out GE182.out GE186.out GE188.out) hb)
              try clear hb
              try clear hb2
              try clear hk
              try clear hi
              try clear ho0
              obtain ⟨Ao250, co250, eo250⟩ := Kd.R_slice HO203.out
              (first | subst eo250 | (injection eo250 with f1_ f2_ f3_; have f4_ := f1_.symm; have f5_ := f3_.symm; clear f1_ f2_ f3_; subst f4_; subst f5_))
              refine hK.out _ _ ⟨ct BK180.out 0, ct BK181.out 0, ct BK181.out 1, ct BK181.out 2, ct BK181.out 3, ct BK186.out 0, ct BK186.out 1, ct BK186.out 2⟩ (fun hHeld => ?_)
              clear hK K
              refine norm_ (a' := ?_) ?_ ?_
              rotate_left
              ·show Act.put _ (some 115) _ = _
               simp only [Act.put, List.setIfInBounds_toArray, List.set_cons_zero, List.set_cons_succ, i64_w, i32_w]
               rfl
              refine one_ (i := 6) (N := none) #[true, true, true, true, true, true, true] rfl rfl (by kernel_rfl) (by decide) (fun K hK => ?_)
              have hs251 : w249.cell? ⟨gb188, 0, none⟩ = some (.slice none 0 0) := ct BK188.out 0
              have hfs251 := blk_frozen BK188.out 0
              have hns251_0 := NB180_188.out
              have hns251_1 := NB181_188.out
              have hns251_2 := NB182_188.out
              have hns251_3 := NB186_188.out
              have hms251_0 := NB188_180.out
              have hms251_1 := NB188_181.out
              have hms251_2 := NB188_182.out
              have hms251_3 := NB188_186.out
              refine skip_ (w1 := ?_) (by rfl) rfl ?_ ?_
              rotate_left
              ·go_simp
               rfl
              refine hK.out _ _ ⟨((cell_far (p := ⟨gb188, _, none⟩) NB180_188.out _).trans (hHeld.1)), ((cell_far (p := ⟨gb188, _, none⟩) NB181_188.out _).trans (hHeld.2.1)), ((cell_far (p := ⟨gb188, _, none⟩) NB181_188.out _).trans (hHeld.2.2.1)), ((cell_far (p := ⟨gb188, _, none⟩) NB181_188.out _).trans (hHeld.2.2.2.1)), ((cell_far (p := ⟨gb188, _, none⟩) NB181_188.out _).trans (hHeld.2.2.2.2.1)), ((cell_far (p := ⟨gb188, _, none⟩) NB186_188.out _).trans (hHeld.2.2.2.2.2.1)), ((cell_far (p := ⟨gb188, _, none⟩) NB186_188.out _).trans (hHeld.2.2.2.2.2.2.1)), ((cell_far (p := ⟨gb188, _, none⟩) NB186_188.out _).trans (hHeld.2.2.2.2.2.2.2))⟩ (fun hHeld => ?_)
              clear hK K
              refine done_ (by kernel_rfl) ?_
              have hnb252 := NB188_180.out
              have hnc252 := NB180_188.out
              have hnb253 := NB188_182.out
              have hnc253 := NB182_188.out
              obtain ⟨hcz254_0, hfz254_0⟩ := zc1 BK188.out
              try go_wp2_with (first | ((with_reducible refine gate_callee (f := 32) rfl ?_); refine goesL_ (some 125) rfl rfl Try.func32 (by kernel_rfl) rfl #[.agg #[.slice Ao250 t201.length co250]] rfl zr ?_; (with_reducible refine (spec_DiskOk.calls kj188 _ _ t201 true _ ?side1 ?side2 A234.out).mono ?_); (case side1 => refine (Kd.R_reads' (e := 66) (base := w.heap.size) (ok := fun k_ => ((True ∧ some k_ ≠ (.slice Ao248 t198.length co248 : Value).ownBlock) ∧ k_ ≠ gb186)) (n := t201.length) (c := co250) ?_).2.2; exact (rx ((Kd.R_mono (Kd.R_far (p := ⟨gb188, 0, none⟩) (Kd.R_types HO203.out BK188.out (by decide)) (fun _ hk => hk.2) (.slice Ao250 t201.length co250)) (fun _ h_ => h_.1))))); (case side2 => exact (Kd.R_reads' HO203.out).2.1); rintro e w255 ⟨rfl, hb⟩; refine ⟨_, rfl, ?_⟩; replace HO200 := am (Kd.R_below (rx ((Kd.R_mono (Kd.R_far (p := ⟨gb188, 0, none⟩) (Kd.R_types HO200.out BK188.out (by decide)) (fun _ hk => hk.2) (.slice Ao250 t201.length co250)) (fun _ h_ => h_.1)))) hb); replace HO203 := am (Kd.R_below (rx ((Kd.R_mono (Kd.R_far (p := ⟨gb188, 0, none⟩) (Kd.R_types HO203.out BK188.out (by decide)) (fun _ hk => hk.2) (.slice Ao250 t201.length co250)) (fun _ h_ => h_.1)))) hb); replace BK180 := am (bb hb (zf1 BK180.out NB180_188.out)); replace BK181 := am (bb hb (zf1 BK181.out NB181_188.out)); replace BK182 := am (bb hb (zf1 BK182.out NB182_188.out)); replace BK186 := am (bb hb (zf1 BK186.out NB186_188.out)); replace BK188 := am (blk_below (g := gb188) (o := .cells #[.slice Ao250 t201.length co250] 31 (0, 0)) (by (with_reducible repeat (first | refine blk_drewN ?_ _ | refine blk_drew ?_ | refine blk_alloc ?_ _)); refine blk_put (cs := #[.slice none 0 0]) ?_ 0 _ rfl; (with_reducible repeat (first | refine blk_drewN ?_ _ | refine blk_drew ?_ | refine blk_alloc ?_ _)); exact BK188.out) hb); replace HB := am (below_step (zb5 HB.out GE180.out GE181.out GE182.out GE186.out GE188.out) hb); (try clear hb); (try clear hb2); (try clear hk); (try clear hi); obtain ⟨hcz256_0, hfz256_0⟩ := zc1 BK188.out; have hnb257 := NB182_180.out; have hnc257 := NB180_182.out; obtain ⟨hcz258_0, hfz258_0⟩ := zc1 BK182.out))
              refine bodyPost_ret (results_ct rfl _ _ gb182 31 #[.slice Ao250 t201.length co250] (0, 0) _ rfl (by (with_reducible repeat (first | refine blk_drewN ?_ _ | refine blk_drew ?_ | refine blk_alloc ?_ _)); refine blk_put (cs := #[.slice none 0 0]) ?_ 0 _ rfl; (with_reducible repeat (first | refine blk_drewN ?_ _ | refine blk_drew ?_ | refine blk_alloc ?_ _)); exact BK182.out) Try.underlying31 rfl (by kernel_rfl)) rfl ?_
              exact ⟨_, by first | rfl | (simp [errW_none, errW_some] <;> rfl) | (simp [*, errW_none, errW_some] <;> rfl), rx (Kd.R_mono (Kd.R_far (p := ⟨gb182, 0, none⟩) (Kd.R_types HO203.out BK182.out (by decide)) (fun _ hk => hk.2) (.slice Ao250 t201.length co250)) (fun _ hk => trivial)), zb5 HB.out GE180.out GE181.out GE182.out GE186.out GE188.out⟩
             ·replace c235 := Bool.eq_false_iff.mpr c235
              subst c235
              have H1 : (some (([] : List (S66)), false)) = some (r1, r2) := by rw [if_neg (show ¬ (false = true) by decide)] at H; exact H
              clear H
              have H := H1
              clear H1
              simp only [Option.some.injEq, Prod.mk.injEq] at H
              obtain ⟨rfl, rfl⟩ := H
              have hnb259 := NB181_180.out
              have hnc259 := NB180_181.out
              have hnb260 := NB181_182.out
              have hnc260 := NB182_181.out
              have hnb261 := NB181_186.out
              have hnc261 := NB186_181.out
              have hnb262 := NB181_188.out
              have hnc262 := NB188_181.out
              obtain ⟨hcz263_0, hcz263_1, hcz263_2, hcz263_3, hfz263_0, hfz263_1, hfz263_2, hfz263_3⟩ := zc4 BK181.out
              have hnb264 := NB186_180.out
              have hnc264 := NB180_186.out
              have hnb265 := NB186_182.out
              have hnc265 := NB182_186.out
              have hnb266 := NB186_188.out
              have hnc266 := NB188_186.out
              obtain ⟨hcz267_0, hcz267_1, hcz267_2, hfz267_0, hfz267_1, hfz267_2⟩ := zc3 BK186.out
              try go_wp2
              have n0_ : Aside0 ((wc.setCell ⟨gb186, 0, none⟩ (.string a1_3)).heap[gb180]? = some (.cells #[.slice A0_0 l0_0.length c0_0] 31 (0, 0))) := ⟨zf1 BK180.out NB180_186.out⟩
              have n1_ : Aside0 ((wc.setCell ⟨gb186, 0, none⟩ (.string a1_3)).heap[gb181]? = some (.cells #[.int .i64 a1_0, .string a1_1, .string a1_2, .string a1_3] 35 (0, 0))) := ⟨zf1 BK181.out NB181_186.out⟩
              have n2_ : Aside0 ((wc.setCell ⟨gb186, 0, none⟩ (.string a1_3)).heap[gb182]? = some (.cells #[.slice none 0 0] 31 (0, 0))) := ⟨zf1 BK182.out NB182_186.out⟩
              have n3_ : Aside0 ((wc.setCell ⟨gb186, 0, none⟩ (.string a1_3)).heap[gb186]? = some (.cells #[.string a1_3, .string x187001_59, .int .i64 x187002_59] 66 (0, 0))) := ⟨by (with_reducible repeat (first | refine blk_drewN ?_ _ | refine blk_drew ?_ | refine blk_alloc ?_ _)); refine blk_put (cs := #[.string x187000_59, .string x187001_59, .int .i64 x187002_59]) ?_ 0 _ rfl; (with_reducible repeat (first | refine blk_drewN ?_ _ | refine blk_drew ?_ | refine blk_alloc ?_ _)); exact BK186.out⟩
              have n4_ : Aside0 ((wc.setCell ⟨gb186, 0, none⟩ (.string a1_3)).heap[gb188]? = some (.cells #[.slice none 0 0] 31 (0, 0))) := ⟨zf1 BK188.out NB188_186.out⟩
              have n5_ : Aside0 (Below w.heap.size w (wc.setCell ⟨gb186, 0, none⟩ (.string a1_3))) := ⟨zb5 HB.out GE180.out GE181.out GE182.out GE186.out GE188.out⟩
              try clear BK180
              try clear BK181
              try clear BK182
              try clear BK186
              try clear BK188
              try clear HB
              generalize (wc.setCell ⟨gb186, 0, none⟩ (.string a1_3)) = w268 at n0_ n1_ n2_ n3_ n4_ n5_ ⊢
              have BK180 := n0_
              have BK181 := n1_
              have BK182 := n2_
              have BK186 := n3_
              have BK188 := n4_
              have HB := n5_
              clear n0_ n1_ n2_ n3_ n4_ n5_
              replace BK180 := am (blk_drew BK180.out)
              replace BK181 := am (blk_drew BK181.out)
              replace BK182 := am (blk_drew BK182.out)
              replace BK186 := am (blk_drew BK186.out)
              replace BK188 := am (blk_drew BK188.out)
              replace HB := am (below_drew1 HB.out)
              refine start_ (n := 7) (S := fun w' => w'.cell? ⟨gb180, 0, none⟩ = some (.slice A0_0 l0_0.length c0_0) ∧ w'.cell? ⟨gb181, 0, none⟩ = some (.int .i64 a1_0) ∧ w'.cell? ⟨gb181, 1, none⟩ = some (.string a1_1) ∧ w'.cell? ⟨gb181, 2, none⟩ = some (.string a1_2) ∧ w'.cell? ⟨gb181, 3, none⟩ = some (.string a1_3) ∧ w'.cell? ⟨gb186, 0, none⟩ = some (.string a1_3) ∧ w'.cell? ⟨gb186, 1, none⟩ = some (.string x187001_59) ∧ w'.cell? ⟨gb186, 2, none⟩ = some (.int .i64 x187002_59)) (ds := []) #[false, false, false, false, false, false, false] (by kernel_rfl) rfl rfl ⟨ct BK180.out 0, ct BK181.out 0, ct BK181.out 1, ct BK181.out 2, ct BK181.out 3, ct BK186.out 0, ct BK186.out 1, ct BK186.out 2⟩ (fun hHeld => ?_)
              generalize w268.drew = w269 at BK180 BK181 BK182 BK186 BK188 HB hHeld ⊢
              refine pure_ (i := 1) (N := some 111) (v := ?_) (a' := ?_) #[false, true, false, false, false, false, false] rfl rfl (by kernel_rfl) (fun _ _ _ h => h) (Or.inl ⟨by rfl, ?_⟩) ?_ ?_
              rotate_left
              ·intro w'
               go_simp
               with_reducible rfl
              rotate_left
              ·simp only [Act.put, List.setIfInBounds_toArray, List.set_cons_zero, List.set_cons_succ, i64_w, i32_w]
               rfl
              refine take_ (i := 0) (N := some 110) (v := ?_) (a' := ?_) #[true, true, false, false, false, false, false] rfl rfl (by kernel_rfl) (fun _ _ _ h => h) (Or.inl ⟨by rfl, ?_⟩) hHeld ?_ ?_
              rotate_left
              ·rintro w' ⟨s0, s1, s2, s3, s4, s5, s6, s7⟩
               go_simp
               with_reducible rfl
              rotate_left
              ·simp only [Act.put, List.setIfInBounds_toArray, List.set_cons_zero, List.set_cons_succ, i64_w, i32_w]
               rfl
              refine take_ (i := 2) (N := some 112) (v := ?_) (a' := ?_) #[true, true, true, false, false, false, false] rfl rfl (by kernel_rfl) (fun _ _ _ h => h) (Or.inl ⟨by rfl, ?_⟩) hHeld ?_ ?_
              rotate_left
              ·rintro w' ⟨s0, s1, s2, s3, s4, s5, s6, s7⟩
               go_simp
               with_reducible rfl
              rotate_left
              ·simp only [Act.put, List.setIfInBounds_toArray, List.set_cons_zero, List.set_cons_succ, i64_w, i32_w]
               rfl
              refine take_ (i := 4) (N := some 114) (v := ?_) (a' := ?_) #[true, true, true, false, true, false, false] rfl rfl (by kernel_rfl) (fun _ _ _ h => h) (Or.inl ⟨by rfl, ?_⟩) hHeld ?_ ?_
              rotate_left
              ·rintro w' ⟨s0, s1, s2, s3, s4, s5, s6, s7⟩
               go_simp
               with_reducible rfl
              rotate_left
              ·simp only [Act.put, List.setIfInBounds_toArray, List.set_cons_zero, List.set_cons_succ, i64_w, i32_w]
               rfl
              refine one_ (i := 3) (N := some 113) #[true, true, true, true, true, false, false] rfl rfl (by kernel_rfl) (by decide) (fun K hK => ?_)
              refine goes_ Try.func36 (by kernel_rfl) rfl #[.agg #[.slice A0_0 l0_0.length c0_0], .string a1_1] (by rfl) rfl rfl zr ?_
              with_reducible refine (spec_l03Without.calls kj188 _ _ l0_0 a1_1 t198 _ ?side1 ?side2 A232.out).mono ?_
              (case side1 => repeat (first | exact (Kd.C_below HR0_0.out HB.out) | (with_reducible refine Kd.C_alloc ?_ _) | (with_reducible refine Kd.C_drewN ?_ _) | (with_reducible refine Kd.C_drew ?_)))
              (case side2 => exact HC0_0.out)
              rintro e w270 ⟨v199, rfl, ho0, hb⟩
              refine ⟨_, rfl, ?_⟩
              have HO200 := am (Kd.R_lower (Kd.R_newB ho0 (g := gb186) (o := .cells #[.string a1_3, .string x187001_59, .int .i64 x187002_59] 66 (0, 0)) (kx BK186.out)) (below_size (zb5 HB.out GE180.out GE181.out GE182.out GE186.out GE188.out)))
              replace BK180 := am (bb hb (kx BK180.out))
              replace BK181 := am (bb hb (kx BK181.out))
              replace BK182 := am (bb hb (kx BK182.out))
              replace BK186 := am (bb hb (kx BK186.out))
              replace BK188 := am (bb hb (kx BK188.out))
              replace HB := am (below_step (zb5 HB.out GE180.out GE181.out GE182.out GE186.out GE188.out) hb)
              try clear hb
              try clear hb2
              try clear hk
              try clear hi
              try clear ho0
              obtain ⟨Ao271, co271, eo271⟩ := Kd.R_slice HO200.out
              (first | subst eo271 | (injection eo271 with f1_ f2_ f3_; have f4_ := f1_.symm; have f5_ := f3_.symm; clear f1_ f2_ f3_; subst f4_; subst f5_))
              refine hK.out _ _ ⟨ct BK180.out 0, ct BK181.out 0, ct BK181.out 1, ct BK181.out 2, ct BK181.out 3, ct BK186.out 0, ct BK186.out 1, ct BK186.out 2⟩ (fun hHeld => ?_)
              clear hK K
              refine norm_ (a' := ?_) ?_ ?_
              rotate_left
              ·show Act.put _ (some 113) _ = _
               simp only [Act.put, List.setIfInBounds_toArray, List.set_cons_zero, List.set_cons_succ, i64_w, i32_w]
               rfl
              refine one_ (i := 5) (N := some 115) #[true, true, true, true, true, true, false] rfl rfl (by kernel_rfl) (by decide) (fun K hK => ?_)
              refine goes_ Try.func35 (by kernel_rfl) rfl #[.agg #[.slice Ao271 t198.length co271], .agg #[.string a1_3, .string x187001_59, .int .i64 x187002_59]] (by rfl) rfl rfl zr ?_
              with_reducible refine (spec_l03Put.calls kj188 _ _ t198 a1_3 x187001_59 x187002_59 t201 _ ?side1 ?side2 A233.out).mono ?_
              (case side1 => repeat (first | exact (Kd.R_reads' HO200.out).2.2 | (with_reducible refine Kd.C_alloc ?_ _) | (with_reducible refine Kd.C_drewN ?_ _) | (with_reducible refine Kd.C_drew ?_)))
              (case side2 => exact (Kd.R_reads' HO200.out).2.1)
              rintro e w272 ⟨v202, rfl, ho0, hb⟩
              refine ⟨_, rfl, ?_⟩
              have HO203 := am (Kd.R_lower (Kd.R_newB (Kd.R_new' ho0 (Kd.R_lt (rx HO200.out))) (g := gb186) (o := .cells #[.string a1_3, .string x187001_59, .int .i64 x187002_59] 66 (0, 0)) (kx BK186.out)) (below_size (zb5 HB.out GE180.out GE181.out GE182.out GE186.out GE188.out)))
              replace HO200 := am (Kd.R_elder' (rx HO200.out) (Kd.R_base ho0) hb)
              replace BK180 := am (bb hb (kx BK180.out))
              replace BK181 := am (bb hb (kx BK181.out))
              replace BK182 := am (bb hb (kx BK182.out))
              replace BK186 := am (bb hb (kx BK186.out))
              replace BK188 := am (bb hb (kx BK188.out))
              replace HB := am (below_step (zb5 HB.out GE180.out GE181.out GE182.out GE186.out GE188.out) hb)
              try clear hb
              try clear hb2
              try clear hk
              try clear hi
              try clear ho0
              obtain ⟨Ao273, co273, eo273⟩ := Kd.R_slice HO203.out
              (first | subst eo273 | (injection eo273 with f1_ f2_ f3_; have f4_ := f1_.symm; have f5_ := f3_.symm; clear f1_ f2_ f3_; subst f4_; subst f5_))
              refine hK.out _ _ ⟨ct BK180.out 0, ct BK181.out 0, ct BK181.out 1, ct BK181.out 2, ct BK181.out 3, ct BK186.out 0, ct BK186.out 1, ct BK186.out 2⟩ (fun hHeld => ?_)
              clear hK K
              refine norm_ (a' := ?_) ?_ ?_
              rotate_left
              ·show Act.put _ (some 115) _ = _
               simp only [Act.put, List.setIfInBounds_toArray, List.set_cons_zero, List.set_cons_succ, i64_w, i32_w]
               rfl
              refine one_ (i := 6) (N := none) #[true, true, true, true, true, true, true] rfl rfl (by kernel_rfl) (by decide) (fun K hK => ?_)
              have hs274 : w272.cell? ⟨gb188, 0, none⟩ = some (.slice none 0 0) := ct BK188.out 0
              have hfs274 := blk_frozen BK188.out 0
              have hns274_0 := NB180_188.out
              have hns274_1 := NB181_188.out
              have hns274_2 := NB182_188.out
              have hns274_3 := NB186_188.out
              have hms274_0 := NB188_180.out
              have hms274_1 := NB188_181.out
              have hms274_2 := NB188_182.out
              have hms274_3 := NB188_186.out
              refine skip_ (w1 := ?_) (by rfl) rfl ?_ ?_
              rotate_left
              ·go_simp
               rfl
              refine hK.out _ _ ⟨((cell_far (p := ⟨gb188, _, none⟩) NB180_188.out _).trans (hHeld.1)), ((cell_far (p := ⟨gb188, _, none⟩) NB181_188.out _).trans (hHeld.2.1)), ((cell_far (p := ⟨gb188, _, none⟩) NB181_188.out _).trans (hHeld.2.2.1)), ((cell_far (p := ⟨gb188, _, none⟩) NB181_188.out _).trans (hHeld.2.2.2.1)), ((cell_far (p := ⟨gb188, _, none⟩) NB181_188.out _).trans (hHeld.2.2.2.2.1)), ((cell_far (p := ⟨gb188, _, none⟩) NB186_188.out _).trans (hHeld.2.2.2.2.2.1)), ((cell_far (p := ⟨gb188, _, none⟩) NB186_188.out _).trans (hHeld.2.2.2.2.2.2.1)), ((cell_far (p := ⟨gb188, _, none⟩) NB186_188.out _).trans (hHeld.2.2.2.2.2.2.2))⟩ (fun hHeld => ?_)
              clear hK K
              refine done_ (by kernel_rfl) ?_
              have hnb275 := NB188_180.out
              have hnc275 := NB180_188.out
              have hnb276 := NB188_182.out
              have hnc276 := NB182_188.out
              obtain ⟨hcz277_0, hfz277_0⟩ := zc1 BK188.out
              try go_wp2_with (first | ((with_reducible refine gate_callee (f := 32) rfl ?_); refine goesL_ (some 125) rfl rfl Try.func32 (by kernel_rfl) rfl #[.agg #[.slice Ao273 t201.length co273]] rfl zr ?_; (with_reducible refine (spec_DiskOk.calls kj188 _ _ t201 false _ ?side1 ?side2 A234.out).mono ?_); (case side1 => refine (Kd.R_reads' (e := 66) (base := w.heap.size) (ok := fun k_ => ((True ∧ some k_ ≠ (.slice Ao271 t198.length co271 : Value).ownBlock) ∧ k_ ≠ gb186)) (n := t201.length) (c := co273) ?_).2.2; exact (rx ((Kd.R_mono (Kd.R_far (p := ⟨gb188, 0, none⟩) (Kd.R_types HO203.out BK188.out (by decide)) (fun _ hk => hk.2) (.slice Ao273 t201.length co273)) (fun _ h_ => h_.1))))); (case side2 => exact (Kd.R_reads' HO203.out).2.1); rintro e w278 ⟨rfl, hb⟩; refine ⟨_, rfl, ?_⟩; replace HO200 := am (Kd.R_below (rx ((Kd.R_mono (Kd.R_far (p := ⟨gb188, 0, none⟩) (Kd.R_types HO200.out BK188.out (by decide)) (fun _ hk => hk.2) (.slice Ao273 t201.length co273)) (fun _ h_ => h_.1)))) hb); replace HO203 := am (Kd.R_below (rx ((Kd.R_mono (Kd.R_far (p := ⟨gb188, 0, none⟩) (Kd.R_types HO203.out BK188.out (by decide)) (fun _ hk => hk.2) (.slice Ao273 t201.length co273)) (fun _ h_ => h_.1)))) hb); replace BK180 := am (bb hb (zf1 BK180.out NB180_188.out)); replace BK181 := am (bb hb (zf1 BK181.out NB181_188.out)); replace BK182 := am (bb hb (zf1 BK182.out NB182_188.out)); replace BK186 := am (bb hb (zf1 BK186.out NB186_188.out)); replace BK188 := am (blk_below (g := gb188) (o := .cells #[.slice Ao273 t201.length co273] 31 (0, 0)) (by (with_reducible repeat (first | refine blk_drewN ?_ _ | refine blk_drew ?_ | refine blk_alloc ?_ _)); refine blk_put (cs := #[.slice none 0 0]) ?_ 0 _ rfl; (with_reducible repeat (first | refine blk_drewN ?_ _ | refine blk_drew ?_ | refine blk_alloc ?_ _)); exact BK188.out) hb); replace HB := am (below_step (zb5 HB.out GE180.out GE181.out GE182.out GE186.out GE188.out) hb); (try clear hb); (try clear hb2); (try clear hk); (try clear hi); have hnb279 := NB182_180.out; have hnc279 := NB180_182.out; obtain ⟨hcz280_0, hfz280_0⟩ := zc1 BK182.out))
              refine bodyPost_ret (results_ct rfl _ _ gb182 31 #[.slice none 0 0] (0, 0) _ rfl (by (with_reducible repeat (first | refine blk_drewN ?_ _ | refine blk_drew ?_ | refine blk_alloc ?_ _)); refine blk_put (cs := #[.slice none 0 0]) ?_ 0 _ rfl; (with_reducible repeat (first | refine blk_drewN ?_ _ | refine blk_drew ?_ | refine blk_alloc ?_ _)); exact BK182.out) Try.underlying31 rfl (by kernel_rfl)) rfl ?_
              exact ⟨_, by first | rfl | (simp [errW_none, errW_some] <;> rfl) | (simp [*, errW_none, errW_some] <;> rfl), by first | exact Kd.R_nil _ _ _ _ _ | exact Kd.N_nil _ _ _ _ _ | exact Kd.V_nil _ _ _ _ _ | exact Kd.Q_nil _ _ _ _ _ | exact Kd.S_nil _ _ _ _ _, zb5 HB.out GE180.out GE181.out GE182.out GE186.out GE188.out⟩
         ·rw [if_neg c188] at H
          have c188b0 : (a1_0 == 3) = false := beq_eq_false_iff_ne.mpr c188
          have c188b1 : (a1_0 != 3) = true := bne_iff_ne.mpr c188
          by_cases c281 : a1_0 = 4
          ·rw [if_pos c281] at H
           have c281b0 : (a1_0 == 4) = true := beq_iff_eq.mpr c281
           have c281b1 : (a1_0 != 4) = false := bne_eq_false_iff_eq.mpr c281
           clear c281
           replace H := Option.bind_eq_some_iff.mp H
           obtain ⟨t205, A2820, H⟩ := H
           try dsimp only at H
           have A282 := Aside0.mk A2820
           clear A2820
           replace H := Option.bind_eq_some_iff.mp H
           obtain ⟨t208, A2830, H⟩ := H
           try dsimp only at H
           have A283 := Aside0.mk A2830
           clear A2830
           by_cases c284 : t208 = true
           ·subst c284
            have H1 : (some (t205, true)) = some (r1, r2) := by rw [if_pos rfl] at H; exact H
            clear H
            have H := H1
            clear H1
            simp only [Option.some.injEq, Prod.mk.injEq] at H
            obtain ⟨rfl, rfl⟩ := H
            go_wp2_with (first | ((with_reducible refine gate_dst (N := 8) rfl ?_); refine box_event ?hg (N := 8) ?hd (cs := #[.slice none 0 0]) (t := 31) ?hr ?_; (case hd => rfl); (case hg => rfl); (case hr => first | (go_simp; done) | (go_simp; rfl)); intro gb188 hg w285 hbox hb; have BK188 := am (hbox); have GW188 := zge hg (zb4 HB.out GE180.out GE181.out GE182.out GE186.out); have GE188 := zge hg (zb4 HB.out GE180.out GE181.out GE182.out GE186.out); have NB180_188 := znl hg (kx BK180.out); have NB188_180 := zng hg (kx BK180.out); have NB181_188 := znl hg (kx BK181.out); have NB188_181 := zng hg (kx BK181.out); have NB182_188 := znl hg (kx BK182.out); have NB188_182 := zng hg (kx BK182.out); have NB186_188 := znl hg (kx BK186.out); have NB188_186 := zng hg (kx BK186.out); replace BK180 := am (bb hb (kx BK180.out)); replace BK181 := am (bb hb (kx BK181.out)); replace BK182 := am (bb hb (kx BK182.out)); replace BK186 := am (bb hb (kx BK186.out)); replace HB := am (below_step (zb4 HB.out GE180.out GE181.out GE182.out GE186.out) hb); clear hb hbox hg; have hnb286 := NB188_180.out; have hnc286 := NB180_188.out; have hnb287 := NB188_181.out; have hnc287 := NB181_188.out; have hnb288 := NB188_182.out; have hnc288 := NB182_188.out; have hnb289 := NB188_186.out; have hnc289 := NB186_188.out; obtain ⟨hcz290_0, hfz290_0⟩ := zc1 BK188.out; have hnb291 := NB181_180.out; have hnc291 := NB180_181.out; have hnb292 := NB181_182.out; have hnc292 := NB182_181.out; have hnb293 := NB181_186.out; have hnc293 := NB186_181.out; obtain ⟨hcz294_0, hcz294_1, hcz294_2, hcz294_3, hfz294_0, hfz294_1, hfz294_2, hfz294_3⟩ := zc4 BK181.out; have hnb295 := NB180_182.out; have hnc295 := NB182_180.out; have hnb296 := NB180_186.out; have hnc296 := NB186_180.out; obtain ⟨hcz297_0, hfz297_0⟩ := zc1 BK180.out) | ((with_reducible refine gate_callee (f := 36) rfl ?_); refine goesL_ (some 123) rfl rfl Try.func36 (by kernel_rfl) rfl #[.agg #[.slice A0_0 l0_0.length c0_0], .string a1_1] rfl zr ?_; (with_reducible refine (spec_l03Without.calls kj59 _ _ l0_0 a1_1 t205 _ ?side1 ?side2 A282.out).mono ?_); (case side1 => exact Kd.C_below HR0_0.out (zb5 HB.out GE180.out GE181.out GE182.out GE186.out GE188.out)); (case side2 => exact HC0_0.out); rintro e w298 ⟨v206, rfl, ho0, hb⟩; refine ⟨_, rfl, ?_⟩; have HO207 := am (Kd.R_lower (Kd.R_newB ho0 (g := gb186) (o := .cells #[.string x187000_59, .string x187001_59, .int .i64 x187002_59] 66 (0, 0)) (zf1 BK186.out NB186_188.out)) (below_size (zb5 HB.out GE180.out GE181.out GE182.out GE186.out GE188.out))); replace BK180 := am (bb hb (zf1 BK180.out NB180_188.out)); replace BK181 := am (bb hb (zf1 BK181.out NB181_188.out)); replace BK182 := am (bb hb (zf1 BK182.out NB182_188.out)); replace BK186 := am (bb hb (zf1 BK186.out NB186_188.out)); replace BK188 := am (blk_below (g := gb188) (o := .cells #[.slice none 0 0] 31 (0, 0)) (by (with_reducible repeat (first | refine blk_drewN ?_ _ | refine blk_drew ?_ | refine blk_alloc ?_ _)); refine blk_put (cs := #[.slice none 0 0]) ?_ 0 _ rfl; (with_reducible repeat (first | refine blk_drewN ?_ _ | refine blk_drew ?_ | refine blk_alloc ?_ _)); exact BK188.out) hb); replace HB := am (below_step (zb5 HB.out GE180.out GE181.out GE182.out GE186.out GE188.out) hb); (try clear hb); (try clear hb2); (try clear hk); (try clear hi); (try clear ho0); obtain ⟨Ao299, co299, eo299⟩ := Kd.R_slice HO207.out; subst eo299; obtain ⟨hcz300_0, hfz300_0⟩ := zc1 BK188.out) | ((with_reducible refine gate_callee (f := 32) rfl ?_); refine goesL_ (some 125) rfl rfl Try.func32 (by kernel_rfl) rfl #[.agg #[.slice Ao299 t205.length co299]] rfl zr ?_; (with_reducible refine (spec_DiskOk.calls kj59 _ _ t205 true _ ?side1 ?side2 A283.out).mono ?_); (case side1 => refine (Kd.R_reads' (e := 66) (base := w.heap.size) (ok := fun k_ => (True ∧ k_ ≠ gb186)) (n := t205.length) (c := co299) ?_).2.2; exact (rx ((Kd.R_mono (Kd.R_far (p := ⟨gb188, 0, none⟩) (Kd.R_types HO207.out BK188.out (by decide)) (fun _ hk => hk.2) (.slice Ao299 t205.length co299)) (fun _ h_ => h_.1))))); (case side2 => exact (Kd.R_reads' HO207.out).2.1); rintro e w301 ⟨rfl, hb⟩; refine ⟨_, rfl, ?_⟩; replace HO207 := am (Kd.R_below (rx ((Kd.R_mono (Kd.R_far (p := ⟨gb188, 0, none⟩) (Kd.R_types HO207.out BK188.out (by decide)) (fun _ hk => hk.2) (.slice Ao299 t205.length co299)) (fun _ h_ => h_.1)))) hb); replace BK180 := am (bb hb (zf1 BK180.out NB180_188.out)); replace BK181 := am (bb hb (zf1 BK181.out NB181_188.out)); replace BK182 := am (bb hb (zf1 BK182.out NB182_188.out)); replace BK186 := am (bb hb (zf1 BK186.out NB186_188.out)); replace BK188 := am (blk_below (g := gb188) (o := .cells #[.slice Ao299 t205.length co299] 31 (0, 0)) (by (with_reducible repeat (first | refine blk_drewN ?_ _ | refine blk_drew ?_ | refine blk_alloc ?_ _)); refine blk_put (cs := #[.slice none 0 0]) ?_ 0 _ rfl; (with_reducible repeat (first | refine blk_drewN ?_ _ | refine blk_drew ?_ | refine blk_alloc ?_ _)); exact BK188.out) hb); replace HB := am (below_step (zb5 HB.out GE180.out GE181.out GE182.out GE186.out GE188.out) hb); (try clear hb); (try clear hb2); (try clear hk); (try clear hi); obtain ⟨hcz302_0, hfz302_0⟩ := zc1 BK188.out; have hnb303 := NB182_186.out; have hnc303 := NB186_182.out; obtain ⟨hcz304_0, hfz304_0⟩ := zc1 BK182.out))
            refine bodyPost_ret (results_ct rfl _ _ gb182 31 #[.slice Ao299 t205.length co299] (0, 0) _ rfl (by (with_reducible repeat (first | refine blk_drewN ?_ _ | refine blk_drew ?_ | refine blk_alloc ?_ _)); refine blk_put (cs := #[.slice none 0 0]) ?_ 0 _ rfl; (with_reducible repeat (first | refine blk_drewN ?_ _ | refine blk_drew ?_ | refine blk_alloc ?_ _)); exact BK182.out) Try.underlying31 rfl (by kernel_rfl)) rfl ?_
            exact ⟨_, by first | rfl | (simp [errW_none, errW_some] <;> rfl) | (simp [*, errW_none, errW_some] <;> rfl), rx (Kd.R_mono (Kd.R_far (p := ⟨gb182, 0, none⟩) (Kd.R_types HO207.out BK182.out (by decide)) (fun _ hk => hk.2) (.slice Ao299 t205.length co299)) (fun _ hk => trivial)), zb5 HB.out GE180.out GE181.out GE182.out GE186.out GE188.out⟩
           ·replace c284 := Bool.eq_false_iff.mpr c284
            subst c284
            have H1 : (some (([] : List (S66)), false)) = some (r1, r2) := by rw [if_neg (show ¬ (false = true) by decide)] at H; exact H
            clear H
            have H := H1
            clear H1
            simp only [Option.some.injEq, Prod.mk.injEq] at H
            obtain ⟨rfl, rfl⟩ := H
            go_wp2_with (first | ((with_reducible refine gate_dst (N := 8) rfl ?_); refine box_event ?hg (N := 8) ?hd (cs := #[.slice none 0 0]) (t := 31) ?hr ?_; (case hd => rfl); (case hg => rfl); (case hr => first | (go_simp; done) | (go_simp; rfl)); intro gb188 hg w305 hbox hb; have BK188 := am (hbox); have GW188 := zge hg (zb4 HB.out GE180.out GE181.out GE182.out GE186.out); have GE188 := zge hg (zb4 HB.out GE180.out GE181.out GE182.out GE186.out); have NB180_188 := znl hg (kx BK180.out); have NB188_180 := zng hg (kx BK180.out); have NB181_188 := znl hg (kx BK181.out); have NB188_181 := zng hg (kx BK181.out); have NB182_188 := znl hg (kx BK182.out); have NB188_182 := zng hg (kx BK182.out); have NB186_188 := znl hg (kx BK186.out); have NB188_186 := zng hg (kx BK186.out); replace BK180 := am (bb hb (kx BK180.out)); replace BK181 := am (bb hb (kx BK181.out)); replace BK182 := am (bb hb (kx BK182.out)); replace BK186 := am (bb hb (kx BK186.out)); replace HB := am (below_step (zb4 HB.out GE180.out GE181.out GE182.out GE186.out) hb); clear hb hbox hg; have hnb306 := NB188_180.out; have hnc306 := NB180_188.out; have hnb307 := NB188_181.out; have hnc307 := NB181_188.out; have hnb308 := NB188_182.out; have hnc308 := NB182_188.out; have hnb309 := NB188_186.out; have hnc309 := NB186_188.out; obtain ⟨hcz310_0, hfz310_0⟩ := zc1 BK188.out; have hnb311 := NB181_180.out; have hnc311 := NB180_181.out; have hnb312 := NB181_182.out; have hnc312 := NB182_181.out; have hnb313 := NB181_186.out; have hnc313 := NB186_181.out; obtain ⟨hcz314_0, hcz314_1, hcz314_2, hcz314_3, hfz314_0, hfz314_1, hfz314_2, hfz314_3⟩ := zc4 BK181.out; have hnb315 := NB180_182.out; have hnc315 := NB182_180.out; have hnb316 := NB180_186.out; have hnc316 := NB186_180.out; obtain ⟨hcz317_0, hfz317_0⟩ := zc1 BK180.out) | ((with_reducible refine gate_callee (f := 36) rfl ?_); refine goesL_ (some 123) rfl rfl Try.func36 (by kernel_rfl) rfl #[.agg #[.slice A0_0 l0_0.length c0_0], .string a1_1] rfl zr ?_; (with_reducible refine (spec_l03Without.calls kj59 _ _ l0_0 a1_1 t205 _ ?side1 ?side2 A282.out).mono ?_); (case side1 => exact Kd.C_below HR0_0.out (zb5 HB.out GE180.out GE181.out GE182.out GE186.out GE188.out)); (case side2 => exact HC0_0.out); rintro e w318 ⟨v206, rfl, ho0, hb⟩; refine ⟨_, rfl, ?_⟩; have HO207 := am (Kd.R_lower (Kd.R_newB ho0 (g := gb186) (o := .cells #[.string x187000_59, .string x187001_59, .int .i64 x187002_59] 66 (0, 0)) (zf1 BK186.out NB186_188.out)) (below_size (zb5 HB.out GE180.out GE181.out GE182.out GE186.out GE188.out))); replace BK180 := am (bb hb (zf1 BK180.out NB180_188.out)); replace BK181 := am (bb hb (zf1 BK181.out NB181_188.out)); replace BK182 := am (bb hb (zf1 BK182.out NB182_188.out)); replace BK186 := am (bb hb (zf1 BK186.out NB186_188.out)); replace BK188 := am (blk_below (g := gb188) (o := .cells #[.slice none 0 0] 31 (0, 0)) (by (with_reducible repeat (first | refine blk_drewN ?_ _ | refine blk_drew ?_ | refine blk_alloc ?_ _)); refine blk_put (cs := #[.slice none 0 0]) ?_ 0 _ rfl; (with_reducible repeat (first | refine blk_drewN ?_ _ | refine blk_drew ?_ | refine blk_alloc ?_ _)); exact BK188.out) hb); replace HB := am (below_step (zb5 HB.out GE180.out GE181.out GE182.out GE186.out GE188.out) hb); (try clear hb); (try clear hb2); (try clear hk); (try clear hi); (try clear ho0); obtain ⟨Ao319, co319, eo319⟩ := Kd.R_slice HO207.out; subst eo319; obtain ⟨hcz320_0, hfz320_0⟩ := zc1 BK188.out) | ((with_reducible refine gate_callee (f := 32) rfl ?_); refine goesL_ (some 125) rfl rfl Try.func32 (by kernel_rfl) rfl #[.agg #[.slice Ao319 t205.length co319]] rfl zr ?_; (with_reducible refine (spec_DiskOk.calls kj59 _ _ t205 false _ ?side1 ?side2 A283.out).mono ?_); (case side1 => refine (Kd.R_reads' (e := 66) (base := w.heap.size) (ok := fun k_ => (True ∧ k_ ≠ gb186)) (n := t205.length) (c := co319) ?_).2.2; exact (rx ((Kd.R_mono (Kd.R_far (p := ⟨gb188, 0, none⟩) (Kd.R_types HO207.out BK188.out (by decide)) (fun _ hk => hk.2) (.slice Ao319 t205.length co319)) (fun _ h_ => h_.1))))); (case side2 => exact (Kd.R_reads' HO207.out).2.1); rintro e w321 ⟨rfl, hb⟩; refine ⟨_, rfl, ?_⟩; replace HO207 := am (Kd.R_below (rx ((Kd.R_mono (Kd.R_far (p := ⟨gb188, 0, none⟩) (Kd.R_types HO207.out BK188.out (by decide)) (fun _ hk => hk.2) (.slice Ao319 t205.length co319)) (fun _ h_ => h_.1)))) hb); replace BK180 := am (bb hb (zf1 BK180.out NB180_188.out)); replace BK181 := am (bb hb (zf1 BK181.out NB181_188.out)); replace BK182 := am (bb hb (zf1 BK182.out NB182_188.out)); replace BK186 := am (bb hb (zf1 BK186.out NB186_188.out)); replace BK188 := am (blk_below (g := gb188) (o := .cells #[.slice Ao319 t205.length co319] 31 (0, 0)) (by (with_reducible repeat (first | refine blk_drewN ?_ _ | refine blk_drew ?_ | refine blk_alloc ?_ _)); refine blk_put (cs := #[.slice none 0 0]) ?_ 0 _ rfl; (with_reducible repeat (first | refine blk_drewN ?_ _ | refine blk_drew ?_ | refine blk_alloc ?_ _)); exact BK188.out) hb); replace HB := am (below_step (zb5 HB.out GE180.out GE181.out GE182.out GE186.out GE188.out) hb); (try clear hb); (try clear hb2); (try clear hk); (try clear hi); have hnb322 := NB182_186.out; have hnc322 := NB186_182.out; obtain ⟨hcz323_0, hfz323_0⟩ := zc1 BK182.out))
            refine bodyPost_ret (results_ct rfl _ _ gb182 31 #[.slice none 0 0] (0, 0) _ rfl (by (with_reducible repeat (first | refine blk_drewN ?_ _ | refine blk_drew ?_ | refine blk_alloc ?_ _)); refine blk_put (cs := #[.slice none 0 0]) ?_ 0 _ rfl; (with_reducible repeat (first | refine blk_drewN ?_ _ | refine blk_drew ?_ | refine blk_alloc ?_ _)); exact BK182.out) Try.underlying31 rfl (by kernel_rfl)) rfl ?_
            exact ⟨_, by first | rfl | (simp [errW_none, errW_some] <;> rfl) | (simp [*, errW_none, errW_some] <;> rfl), by first | exact Kd.R_nil _ _ _ _ _ | exact Kd.N_nil _ _ _ _ _ | exact Kd.V_nil _ _ _ _ _ | exact Kd.Q_nil _ _ _ _ _ | exact Kd.S_nil _ _ _ _ _, zb5 HB.out GE180.out GE181.out GE182.out GE186.out GE188.out⟩
          ·rw [if_neg c281] at H
           have c281b0 : (a1_0 == 4) = false := beq_eq_false_iff_ne.mpr c281
           have c281b1 : (a1_0 != 4) = true := bne_iff_ne.mpr c281
           simp only [Option.some.injEq, Prod.mk.injEq] at H
           obtain ⟨rfl, rfl⟩ := H
           go_wp2_with (first | ((with_reducible refine gate_dst (N := 8) rfl ?_); refine box_event ?hg (N := 8) ?hd (cs := #[.slice none 0 0]) (t := 31) ?hr ?_; (case hd => rfl); (case hg => rfl); (case hr => first | (go_simp; done) | (go_simp; rfl)); intro gb188 hg w324 hbox hb; have BK188 := am (hbox); have GW188 := zge hg (zb4 HB.out GE180.out GE181.out GE182.out GE186.out); have GE188 := zge hg (zb4 HB.out GE180.out GE181.out GE182.out GE186.out); have NB180_188 := znl hg (kx BK180.out); have NB188_180 := zng hg (kx BK180.out); have NB181_188 := znl hg (kx BK181.out); have NB188_181 := zng hg (kx BK181.out); have NB182_188 := znl hg (kx BK182.out); have NB188_182 := zng hg (kx BK182.out); have NB186_188 := znl hg (kx BK186.out); have NB188_186 := zng hg (kx BK186.out); replace BK180 := am (bb hb (kx BK180.out)); replace BK181 := am (bb hb (kx BK181.out)); replace BK182 := am (bb hb (kx BK182.out)); replace BK186 := am (bb hb (kx BK186.out)); replace HB := am (below_step (zb4 HB.out GE180.out GE181.out GE182.out GE186.out) hb); clear hb hbox hg; have hnb325 := NB188_180.out; have hnc325 := NB180_188.out; have hnb326 := NB188_181.out; have hnc326 := NB181_188.out; have hnb327 := NB188_182.out; have hnc327 := NB182_188.out; have hnb328 := NB188_186.out; have hnc328 := NB186_188.out; obtain ⟨hcz329_0, hfz329_0⟩ := zc1 BK188.out; have hnb330 := NB181_180.out; have hnc330 := NB180_181.out; have hnb331 := NB181_182.out; have hnc331 := NB182_181.out; have hnb332 := NB181_186.out; have hnc332 := NB186_181.out; obtain ⟨hcz333_0, hcz333_1, hcz333_2, hcz333_3, hfz333_0, hfz333_1, hfz333_2, hfz333_3⟩ := zc4 BK181.out; have hnb334 := NB182_180.out; have hnc334 := NB180_182.out; have hnb335 := NB182_186.out; have hnc335 := NB186_182.out; obtain ⟨hcz336_0, hfz336_0⟩ := zc1 BK182.out))
           refine bodyPost_ret (results_ct rfl _ _ gb182 31 #[.slice none 0 0] (0, 0) _ rfl (by (with_reducible repeat (first | refine blk_drewN ?_ _ | refine blk_drew ?_ | refine blk_alloc ?_ _)); refine blk_put (cs := #[.slice none 0 0]) ?_ 0 _ rfl; (with_reducible repeat (first | refine blk_drewN ?_ _ | refine blk_drew ?_ | refine blk_alloc ?_ _)); refine blk_far ?_ NB182_188.out _; (with_reducible repeat (first | refine blk_drewN ?_ _ | refine blk_drew ?_ | refine blk_alloc ?_ _)); exact BK182.out) Try.underlying31 rfl (by kernel_rfl)) rfl ?_
           exact ⟨_, by first | rfl | (simp [errW_none, errW_some] <;> rfl) | (simp [*, errW_none, errW_some] <;> rfl), by first | exact Kd.R_nil _ _ _ _ _ | exact Kd.N_nil _ _ _ _ _ | exact Kd.V_nil _ _ _ _ _ | exact Kd.Q_nil _ _ _ _ _ | exact Kd.S_nil _ _ _ _ _, zb5 HB.out GE180.out GE181.out GE182.out GE186.out GE188.out⟩

end Go.Proofs.Ytklbkkoojkmjbaa.QFnExactDoActs
