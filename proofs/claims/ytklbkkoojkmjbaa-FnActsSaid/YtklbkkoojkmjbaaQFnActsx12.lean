/- Written by the kit's print.py, called by our own print2.sh with one import more; not by print.sh. -/
import Derived.Test.YtklbkkoojkmjbaaQFnActsx0
import Derived.Test.YtklbkkoojkmjbaaQFnActsx6
import Derived.Test.YtklbkkoojkmjbaaQFnActsx10
import Derived.Test.YtklbkkoojkmjbaaQFnActsx11
namespace Go.Proofs.Ytklbkkoojkmjbaa.QFnActs
open Go.RowKit Go.Proofs.YtklbkkoojkmjbaaW.PrintWords Go.Proofs.YtklbkkoojkmjbaaW.PrintLast Go.Proofs.YtklbkkoojkmjbaaW.PrintMore
attribute [local go_sem] max2_int min2_int max_two min_two max_three min_three max_four min_four   -- for this text's walks alone
open Go.Proofs.Ytklbkkoojkmjbaa.Short
set_option linter.unusedVariables false
set_option linter.unusedSimpArgs false

/-! ### spec_l03Disk: function 50 -/
mutual
def spec_l03Disk.l0 : Nat → Int → List Int → Int → Int → List (S66) → Option ((List (S66)) × Int × Int)
 | 0, _, _, _, _, _ => none
 | k + 1, x4, x1000, x1001, x1002, x295000 => (spec_l01Below.f x1000 x1001 x1002 6).bind fun bt295 => (if x4 < bt295.1 then ((spec_l01Below.f x1000 bt295.2.1 bt295.2.2 9).bind fun bt298 => ((spec_l01Text.f k x1000 bt298.2.1 bt298.2.2 bt298.1).bind fun bt301 => ((spec_l03Named.f x1000 bt301.2.1 bt301.2.2).bind fun bt304 => ((spec_l01Below.f x1000 bt304.2.1 bt304.2.2 (wrap64 ((bt301.1.size : Int) + 1))).bind fun bt307 => ((spec_l03Put.f k x295000 bt304.1 bt301.1 bt307.1).bind fun t310 => (spec_l03Disk.l0 k (wrap64 (x4 + 1)) x1000 bt307.2.1 bt307.2.2 t310)))))) else (if (x295000.length : Int) = 0 then (some (x295000, bt295.2.1, bt295.2.2)) else ((spec_l01Below.f x1000 bt295.2.1 bt295.2.2 (x295000.length : Int)).bind fun bt313 => ((spec_l01Below.f x1000 bt313.2.1 bt313.2.2 40).bind fun bt316 => (if bt316.1 = 0 then (if 0 ≤ bt313.1 then (if bt313.1 < (x295000.length : Int) then ((spec_l01PickInt.f x1000 bt316.2.1 bt316.2.2 (([(-1), wrap64 ((((rd_T66 x295000 bt313.1).f1).size : Int) + 1)] : List Int))).bind fun bt323 => (some ((x295000.set (bt313.1 : Int).toNat (⟨(rd_T66 x295000 bt313.1).f0, (rd_T66 x295000 bt313.1).f1, bt323.1⟩ : S66)), bt323.2.1, bt323.2.2))) else (none)) else (none)) else (if bt316.1 = 1 then (if 0 ≤ bt313.1 then (if bt313.1 < (x295000.length : Int) then (if x295000.length < 3518437208883 then (some ((x295000 ++ [(⟨(rd_T66 x295000 bt313.1).f0, (rd_T66 x295000 bt313.1).f1, (rd_T66 x295000 bt313.1).f2⟩ : S66)]), bt316.2.1, bt316.2.2)) else (none)) else (none)) else (none)) else (if bt316.1 = 2 then ((spec_l01Pick.f x1000 bt316.2.1 bt316.2.2 (([(⟨#[]⟩ : ByteArray), (⟨#[49, 50, 51, 52, 53, 54, 55, 56]⟩ : ByteArray), (⟨#[49, 50, 51, 52, 53, 54, 55, 56, 57]⟩ : ByteArray)] : List ByteArray))).bind fun bt334 => (if 0 ≤ bt313.1 then (if bt313.1 < (x295000.length : Int) then (some ((x295000.set (bt313.1 : Int).toNat (⟨bt334.1, (rd_T66 x295000 bt313.1).f1, (rd_T66 x295000 bt313.1).f2⟩ : S66)), bt334.2.1, bt334.2.2)) else (none)) else (none))) else (if bt316.1 = 3 then (spec_l03Disk.l1 k 0 x1000 bt316.2.1 bt316.2.2 (([] : List (S66)))) else (if bt316.1 = 4 then ((spec_l01Below.f x1000 bt316.2.1 bt316.2.2 3).bind fun bt348 => ((spec_l01Long.f k (wrap64 (19999 + bt348.1)) 65).bind fun t351 => (if 0 ≤ bt313.1 then (if bt313.1 < (x295000.length : Int) then (some ((x295000.set (bt313.1 : Int).toNat (⟨(rd_T66 x295000 bt313.1).f0, t351, (rd_T66 x295000 bt313.1).f2⟩ : S66)), bt348.2.1, bt348.2.2)) else (none)) else (none)))) else (some (x295000, bt316.2.1, bt316.2.2)))))))))))
def spec_l03Disk.l1 : Nat → Int → List Int → Int → Int → List (S66) → Option ((List (S66)) × Int × Int)
 | 0, _, _, _, _, _ => none
 | k + 1, x7, x1000, x1001, x1002, x295000 => (spec_l01Below.f x1000 x1001 x1002 2).bind fun bt341 => (if x7 < (wrap64 (30 + bt341.1)) then ((spec_Decimal.f k (wrap64 (100 + x7))).bind fun t344 => (if 1 + t344.size ≤ 9223372036854775807 then (if x295000.length < 3518437208883 then (spec_l03Disk.l1 k (wrap64 (x7 + 1)) x1000 bt341.2.1 bt341.2.2 (x295000 ++ [(⟨(⟨#[102]⟩ : ByteArray) ++ t344, (⟨#[]⟩ : ByteArray), 0⟩ : S66)])) else (none)) else (none))) else (some (x295000, bt341.2.1, bt341.2.2)))
end
def spec_l03Disk.f (k : Nat) (s0_0 : List Int) (s0_1 : Int) (s0_2 : Int) : Option ((List (S66)) × Int × Int) := spec_l03Disk.l0 k 0 s0_0 s0_1 s0_2 ([] : List (S66))
theorem spec_l03Disk.mono_l : ∀ k, (∀ y0 y1 y2 y3 y4, LeO (spec_l03Disk.l0 k y0 y1 y2 y3 y4) (spec_l03Disk.l0 (k + 1) y0 y1 y2 y3 y4)) ∧ (∀ y0 y1 y2 y3 y4, LeO (spec_l03Disk.l1 k y0 y1 y2 y3 y4) (spec_l03Disk.l1 (k + 1) y0 y1 y2 y3 y4))
 | 0 => ⟨fun _ _ _ _ _ r h => by simp [spec_l03Disk.l0] at h, fun _ _ _ _ _ r h => by simp [spec_l03Disk.l1] at h⟩
 | k + 1 => by
  obtain ⟨ih0, ih1⟩ := spec_l03Disk.mono_l k
  refine ⟨?_, ?_⟩
  ·intro y0 y1 y2 y3 y4
   unfold spec_l03Disk.l0
   repeat' first
   | (with_reducible exact ih0 _ _ _ _ _)
   | (with_reducible exact ih1 _ _ _ _ _)
   | (with_reducible exact spec_Decimal.mono _ _)
   | (with_reducible exact spec_l01Long.mono _ _ _)
   | (with_reducible exact spec_l01Text.mono _ _ _ _ _)
   | (with_reducible exact spec_l03Put.mono _ _ _ _ _)
   | (with_reducible exact LeO.refl _)
   | (with_reducible exact LeO.none _)
   | (with_reducible refine LeO.ite ?_ ?_)
   | (with_reducible refine LeO.bind ?_ (fun _ => ?_))
   | exact ih0 _ _ _ _ _
   | exact ih1 _ _ _ _ _
   | exact spec_Decimal.mono _ _
   | exact spec_l01Long.mono _ _ _
   | exact spec_l01Text.mono _ _ _ _ _
   | exact spec_l03Put.mono _ _ _ _ _
   | exact LeO.none _
   | refine LeO.ite ?_ ?_
   | refine LeO.bind ?_ (fun _ => ?_)
  ·intro y0 y1 y2 y3 y4
   unfold spec_l03Disk.l1
   repeat' first
   | (with_reducible exact ih0 _ _ _ _ _)
   | (with_reducible exact ih1 _ _ _ _ _)
   | (with_reducible exact spec_Decimal.mono _ _)
   | (with_reducible exact spec_l01Long.mono _ _ _)
   | (with_reducible exact spec_l01Text.mono _ _ _ _ _)
   | (with_reducible exact spec_l03Put.mono _ _ _ _ _)
   | (with_reducible exact LeO.refl _)
   | (with_reducible exact LeO.none _)
   | (with_reducible refine LeO.ite ?_ ?_)
   | (with_reducible refine LeO.bind ?_ (fun _ => ?_))
   | exact ih0 _ _ _ _ _
   | exact ih1 _ _ _ _ _
   | exact spec_Decimal.mono _ _
   | exact spec_l01Long.mono _ _ _
   | exact spec_l01Text.mono _ _ _ _ _
   | exact spec_l03Put.mono _ _ _ _ _
   | exact LeO.none _
   | refine LeO.ite ?_ ?_
   | refine LeO.bind ?_ (fun _ => ?_)
theorem spec_l03Disk.mono : ∀ a0 a1 a2 k, LeO (spec_l03Disk.f k a0 a1 a2) (spec_l03Disk.f (k + 1) a0 a1 a2) := by
 intro a0 a1 a2 k
 obtain ⟨ih0, ih1⟩ := spec_l03Disk.mono_l k
 unfold spec_l03Disk.f
 repeat' first
   | (with_reducible exact ih0 _ _ _ _ _)
   | (with_reducible exact ih1 _ _ _ _ _)
   | (with_reducible exact spec_Decimal.mono _ _)
   | (with_reducible exact spec_l01Long.mono _ _ _)
   | (with_reducible exact spec_l01Text.mono _ _ _ _ _)
   | (with_reducible exact spec_l03Put.mono _ _ _ _ _)
   | (with_reducible exact LeO.refl _)
   | (with_reducible exact LeO.none _)
   | (with_reducible refine LeO.ite ?_ ?_)
   | (with_reducible refine LeO.bind ?_ (fun _ => ?_))
   | exact ih0 _ _ _ _ _
   | exact ih1 _ _ _ _ _
   | exact spec_Decimal.mono _ _
   | exact spec_l01Long.mono _ _ _
   | exact spec_l01Text.mono _ _ _ _ _
   | exact spec_l03Put.mono _ _ _ _ _
   | exact LeO.none _
   | refine LeO.ite ?_ ?_
   | refine LeO.bind ?_ (fun _ => ?_)
def spec_l03Disk.T6 : Bool × List (List Nat × List Nat) := (true, [([], []), ([], []), ([1], [1]), ([], []), ([], []), ([], []), ([5], [5]), ([6], [6]), ([4, 7, 2], [4, 7]), ([2, 3, 8], [2, 3, 8]), ([0, 9, 8], [0, 9]), ([10, 10, 0, 1, 2, 3, 4, 5, 6, 7, 8, 9, 10], [10])])
def spec_l03Disk.B6 : List Nat := [0, 0, 2, 0, 0, 0, 32, 96, 246, 510, 1023, 2047]
theorem spec_l03Disk.tab6 : rtab .any (opsOf Try.f50 6) = spec_l03Disk.T6 := by kernel_rfl
theorem spec_l03Disk.bits6 : waitsOk spec_l03Disk.T6.2 spec_l03Disk.B6 = true := by kernel_rfl
def spec_l03Disk.T12 : Bool × List (List Nat × List Nat) := (true, [([], []), ([0], [0]), ([], []), ([], []), ([], []), ([4], [4]), ([], []), ([5, 6], [5, 6]), ([7], [7]), ([8], [8]), ([9], [9]), ([10], [10]), ([11], [11]), ([3, 12], [3, 12]), ([1, 2, 0, 1, 2, 3, 4, 5, 6, 7, 8, 9, 10, 11, 12, 13], [1, 2]), ([14, 0, 1, 2, 3, 4, 5, 6, 7, 8, 9, 10, 11, 12, 13], [14]), ([15, 13, 13, 0, 1, 2, 3, 4, 5, 6, 7, 8, 9, 10, 11, 12, 13], [13, 15])])
def spec_l03Disk.B12 : List Nat := [0, 1, 0, 0, 0, 16, 0, 112, 240, 496, 1008, 2032, 4080, 8184, 16383, 32767, 65535]
theorem spec_l03Disk.tab12 : rtab .any (opsOf Try.f50 12) = spec_l03Disk.T12 := by kernel_rfl
theorem spec_l03Disk.bits12 : waitsOk spec_l03Disk.T12.2 spec_l03Disk.B12 = true := by kernel_rfl
def spec_l03Disk.T14 : Bool × List (List Nat × List Nat) := (true, [([], []), ([0], [0]), ([], []), ([2], [2]), ([], []), ([3, 4], [3, 4]), ([5], [5]), ([6], [6]), ([1, 7], [1, 7]), ([0, 1, 2, 3, 4, 5, 6, 7, 8], []), ([9, 8, 8, 0, 1, 2, 3, 4, 5, 6, 7, 8], [8, 9])])
def spec_l03Disk.B14 : List Nat := [0, 1, 0, 4, 0, 28, 60, 124, 255, 511, 1023]
theorem spec_l03Disk.tab14 : rtab .any (opsOf Try.f50 14) = spec_l03Disk.T14 := by kernel_rfl
theorem spec_l03Disk.bits14 : waitsOk spec_l03Disk.T14.2 spec_l03Disk.B14 = true := by kernel_rfl
def spec_l03Disk.T16 : Bool × List (List Nat × List Nat) := (true, [([], []), ([0], [0]), ([], []), ([], []), ([], []), ([3, 4], [3, 4]), ([1, 2, 0, 1, 2, 3, 4, 5], [1, 2]), ([6, 0, 1, 2, 3, 4, 5], [6]), ([7, 5, 5, 0, 1, 2, 3, 4, 5], [5, 7])])
def spec_l03Disk.B16 : List Nat := [0, 1, 0, 0, 0, 24, 63, 127, 255]
theorem spec_l03Disk.tab16 : rtab .any (opsOf Try.f50 16) = spec_l03Disk.T16 := by kernel_rfl
theorem spec_l03Disk.bits16 : waitsOk spec_l03Disk.T16.2 spec_l03Disk.B16 = true := by kernel_rfl
def spec_l03Disk.T22 : Bool × List (List Nat × List Nat) := (true, [([], []), ([0], [0]), ([], []), ([2], [2]), ([3], [3]), ([4], [4]), ([5], [5]), ([6], [6]), ([1, 7, 4], [1, 7]), ([0, 1, 2, 3, 4, 5, 6, 7, 8], []), ([9, 8, 8, 0, 1, 2, 3, 4, 5, 6, 7, 8], [8, 9])])
def spec_l03Disk.B22 : List Nat := [0, 1, 0, 4, 12, 28, 60, 124, 255, 511, 1023]
theorem spec_l03Disk.tab22 : rtab .any (opsOf Try.f50 22) = spec_l03Disk.T22 := by kernel_rfl
theorem spec_l03Disk.bits22 : waitsOk spec_l03Disk.T22.2 spec_l03Disk.B22 = true := by kernel_rfl
def spec_l03Disk.T24 : Bool × List (List Nat × List Nat) := (true, [([], []), ([0], [0]), ([], []), ([], []), ([3], [3]), ([4], [4]), ([5, 4], [5]), ([1, 2, 0, 1, 2, 3, 4, 5, 6], [1, 2]), ([7, 0, 1, 2, 3, 4, 5, 6], [7]), ([8, 6, 6, 0, 1, 2, 3, 4, 5, 6], [6, 8])])
def spec_l03Disk.B24 : List Nat := [0, 1, 0, 0, 8, 24, 56, 127, 255, 511]
theorem spec_l03Disk.tab24 : rtab .any (opsOf Try.f50 24) = spec_l03Disk.T24 := by kernel_rfl
theorem spec_l03Disk.bits24 : waitsOk spec_l03Disk.T24.2 spec_l03Disk.B24 = true := by kernel_rfl
set_option maxHeartbeats 8000000 in
set_option maxRecDepth 100000 in
theorem spec_l03Disk.calls (k : Nat) (g : Nat) (s0_0 : List Int) (s0_1 : Int) (s0_2 : Int) (r1 : List (S66)) (r2 : Int) (r3 : Int) (w0 w : World) (hI : IsS93 w0 w g s0_0 s0_1 s0_2) (hB : Below w0.heap.size w0 w) (h : spec_l03Disk.f k s0_0 s0_1 s0_2 = some (r1, r2, r3)) :
  Calls Try.prog 50 #[.pointer (some ⟨g, 0, none⟩)] w fun e w' => ∃ v0_ : Value, e = .returned (.agg #[v0_]) ∧ Kd.R k66 66 w' w.heap.size (fun _ => True) v0_ r1 ∧ IsS93 w0 w' g s0_0 r2 r3 ∧ Below w0.heap.size w0 w' ∧ KeepBut w w' g none := by
 have hu31 := Try.underlying31
 have hu66 := Try.underlying66
 have HI0 := Aside0.mk hI
 have HK := Aside0.mk (KeepBut.refl w g none)
 have HL := Aside0.mk hB.size
 clear hI
 have HW0 := Aside0.mk hB.size
 have HB := Aside0.mk hB
 clear hB
 have H : (spec_l03Disk.l0 k 0 s0_0 s0_1 s0_2 ([] : List (S66))) = some (r1, r2, r3) := h
 clear h
 have H' := Aside0.mk H
 clear H
 go_enter Try.func50, Try.ntmps50
 go_wp2_with (first | ((with_reducible refine gate_dst (N := 2) rfl ?_); refine box_event rfl (N := 2) rfl (cs := #[.slice none 0 0]) (t := 31) zrun ?_; intro gb293 hg w2 hbox hb; have BK293 := am (hbox); have GW293 := zks hg (zq0 HK); have GE293 := am ((Nat.le_trans HW0.out (by rw [hg]; exact (keep_size (w := w) (g := g) (row := none) (zq0 HK)) : w.heap.size ≤ gb293) : w0.heap.size ≤ gb293)); have NB0_293 := i93_l hg (show IsS93 w0 _ g s0_0 s0_1 s0_2 from (i93_0 HI0)); have NB293_0 := i93_g hg (show IsS93 w0 _ g s0_0 s0_1 s0_2 from (i93_0 HI0)); replace HK := am (KeepBut.trans (zq0 HK) (KeepBut.of_below hb g none) (.inl rfl)); replace HB := am (below_step ((zb1 HB.out (IsS93.ge HI0.out))) hb); replace HI0 := am (IsS93.below (i93_0 HI0) hb); clear hb hbox hg) | ((with_reducible refine gate_dst (N := 3) rfl ?_); refine box_event rfl (N := 3) rfl (cs := #[.slice none 0 0]) (t := 31) zrun ?_; intro gb294 hg w3 hbox hb; have BK294 := am (hbox); have GW294 := zks hg (zq1 HK GW293); have GE294 := am ((Nat.le_trans HW0.out (by rw [hg]; exact (keep_size (w := w) (g := g) (row := none) (zq1 HK GW293)) : w.heap.size ≤ gb294) : w0.heap.size ≤ gb294)); obtain ⟨NB293_294, NB294_293⟩ := zne hg BK293; have NB0_294 := i93_l hg (show IsS93 w0 _ g s0_0 s0_1 s0_2 from (i93_1 HI0 NB0_293)); have NB294_0 := i93_g hg (show IsS93 w0 _ g s0_0 s0_1 s0_2 from (i93_1 HI0 NB0_293)); replace BK293 := zk hb BK293; replace HK := am (KeepBut.trans (zq1 HK GW293) (KeepBut.of_below hb g none) (.inl rfl)); replace HB := am (below_step ((zb2 HB.out (IsS93.ge HI0.out) GE293.out)) hb); replace HI0 := am (IsS93.below (i93_1 HI0 NB0_293) hb); clear hb hbox hg; obtain ⟨hnb4, hnc4⟩ := zn2 NB294_293; obtain ⟨hnb5, hnc5⟩ := zn2 NB294_0; obtain ⟨hcz6_0, hfz6_0⟩ := zc1 BK294.out))
 go_loopg [4] k (fun kq v4 w' => ∃ (x4_1 : Int) (x1001_1 : Int) (x1002_1 : Int) (x295000_1 : List (S66)) (u295000 : Value), v4 = .int .i64 x4_1 ∧ Aside0 (spec_l03Disk.l0 kq x4_1 s0_0 x1001_1 x1002_1 x295000_1 = some (r1, r2, r3)) ∧ Aside0 (kq ≤ k) ∧ Aside0 (Kd.R k66 66 w' w.heap.size (fun _ => True) u295000 x295000_1) ∧ Aside0 (w'.heap[gb293]? = some (.cells #[(.slice none 0 0)] 31 (0, 0))) ∧ Aside0 (w'.heap[gb294]? = some (.cells #[u295000] 31 (0, 0))) ∧ Aside0 (IsS93 w0 w' g s0_0 x1001_1 x1002_1) ∧ Aside0 (KeepBut w w' g none) ∧ Aside0 (Below w0.heap.size w0 w'))
 case atStart => exact ⟨(0), (s0_1), (s0_2), (([] : List (S66))), (.slice none 0 0), (by first | rfl | (simp; done) | (simp [*]; done)), H', ⟨Nat.le_refl _⟩, ⟨by first | exact Kd.R_nil _ _ _ _ _ | exact Kd.N_nil _ _ _ _ _ | exact Kd.V_nil _ _ _ _ _ | exact Kd.Q_nil _ _ _ _ _ | exact Kd.S_nil _ _ _ _ _⟩, ⟨zf1 BK293.out NB293_294.out⟩, ⟨by (with_reducible repeat (first | refine blk_drewN ?_ _ | refine blk_drew ?_ | refine blk_alloc ?_ _)); refine blk_put (cs := #[.slice none 0 0]) ?_ 0 _ rfl; (with_reducible repeat (first | refine blk_drewN ?_ _ | refine blk_drew ?_ | refine blk_alloc ?_ _)); exact BK294.out⟩, ⟨(i93_2 HI0 NB0_293 NB0_294)⟩, ⟨(zq2 HK GW293 GW294)⟩, ⟨(zb3 HB.out (IsS93.ge HI0.out) GE293.out GE294.out)⟩⟩
 case round =>
  clear H'
  obtain ⟨x4_1, x1001_1, x1002_1, x295000_1, u295000, rfl, HA, HK1, HO_295000, BK293, BK294, HI0, HK, HB⟩ := hrel
  cases gk with
  | zero => exact absurd HA.out (by simp [spec_l03Disk.l0])
  | succ k1 =>
   have H := HA.out
   clear HA
   simp only [spec_l03Disk.l0] at H
   replace H := Option.bind_eq_some_iff.mp H
   obtain ⟨⟨t295, t296, t297⟩, A70, H⟩ := H
   try dsimp only at H
   have A7 := Aside0.mk A70
   clear A70
   by_cases c8 : x4_1 < t295
   ·rw [if_pos c8] at H
    have c8b0 : decide (x4_1 < t295) = true := decide_eq_true c8
    have c8b1 : decide (t295 ≤ x4_1) = false := decide_eq_false (by omega)
    clear c8
    replace H := Option.bind_eq_some_iff.mp H
    obtain ⟨⟨t298, t299, t300⟩, A90, H⟩ := H
    try dsimp only at H
    have A9 := Aside0.mk A90
    clear A90
    replace H := Option.bind_eq_some_iff.mp H
    obtain ⟨⟨t301, t302, t303⟩, A100, H⟩ := H
    try dsimp only at H
    have A10 := Aside0.mk A100
    clear A100
    replace H := Option.bind_eq_some_iff.mp H
    obtain ⟨⟨t304, t305, t306⟩, A110, H⟩ := H
    try dsimp only at H
    have A11 := Aside0.mk A110
    clear A110
    replace H := Option.bind_eq_some_iff.mp H
    obtain ⟨⟨t307, t308, t309⟩, A120, H⟩ := H
    try dsimp only at H
    have A12 := Aside0.mk A120
    clear A120
    replace H := Option.bind_eq_some_iff.mp H
    obtain ⟨t310, A130, H⟩ := H
    try dsimp only at H
    have A13 := Aside0.mk A130
    clear A130
    have H' := Aside0.mk H
    clear H
    try go_wp2_with (first | ((with_reducible refine gate_callee (f := 66) rfl ?_); refine goesL_ (some 11) rfl rfl Try.func66 (by kernel_rfl) rfl #[.pointer (some ⟨g, 0, none⟩), .int .i64 6] rfl zr ?_; (with_reducible refine (spec_l01Below.calls g s0_0 x1001_1 x1002_1 6 t295 t296 t297 w0 _ ?side1 ?side2 A7.out).mono ?_); (case side1 => exact i93_2 HI0 NB0_293 NB0_294); (case side2 => exact zb3 HB.out (IsS93.ge HI0.out) GE293.out GE294.out); rintro e w14 ⟨rfl, hi, hb, hk⟩; refine ⟨_, rfl, ?_⟩; replace HO_295000 := i93_r hk (show IsS93 w0 _ g s0_0 x1001_1 x1002_1 from (i93_2 HI0 NB0_293 NB0_294)) HO_295000; replace BK293 := zkb hk BK293 NB293_0; replace BK294 := zkb hk BK294 NB294_0; replace HK := zqt hk (zq2 HK GW293 GW294); replace HB := am (hb); replace HI0 := am (hi); clear hb hk hi) | ((with_reducible refine gate_callee (f := 66) rfl ?_); refine goesL_ (some 17) rfl rfl Try.func66 (by kernel_rfl) rfl #[.pointer (some ⟨g, 0, none⟩), .int .i64 9] rfl zr ?_; (with_reducible refine (spec_l01Below.calls g s0_0 t296 t297 9 t298 t299 t300 w0 _ ?side1 ?side2 A9.out).mono ?_); (case side1 => exact i93_2 HI0 NB0_293 NB0_294); (case side2 => exact zb3 HB.out (IsS93.ge HI0.out) GE293.out GE294.out); rintro e w15 ⟨rfl, hi, hb, hk⟩; refine ⟨_, rfl, ?_⟩; replace HO_295000 := i93_r hk (show IsS93 w0 _ g s0_0 t296 t297 from (i93_2 HI0 NB0_293 NB0_294)) HO_295000; replace BK293 := zkb hk BK293 NB293_0; replace BK294 := zkb hk BK294 NB294_0; replace HK := zqt hk (zq2 HK GW293 GW294); replace HB := am (hb); replace HI0 := am (hi); clear hb hk hi) | ((with_reducible refine gate_callee (f := 67) rfl ?_); refine goesL_ (some 18) rfl rfl Try.func67 (by kernel_rfl) rfl #[.pointer (some ⟨g, 0, none⟩), .int .i64 t298] rfl zr ?_; (with_reducible refine (spec_l01Text.calls k1 g s0_0 t299 t300 t298 t301 t302 t303 w0 _ ?side1 ?side2 A10.out).mono ?_); (case side1 => exact i93_2 HI0 NB0_293 NB0_294); (case side2 => exact zb3 HB.out (IsS93.ge HI0.out) GE293.out GE294.out); rintro e w16 ⟨rfl, hi, hb, hk⟩; refine ⟨_, rfl, ?_⟩; replace HO_295000 := i93_r hk (show IsS93 w0 _ g s0_0 t299 t300 from (i93_2 HI0 NB0_293 NB0_294)) HO_295000; replace BK293 := zkb hk BK293 NB293_0; replace BK294 := zkb hk BK294 NB294_0; replace HK := zqt hk (zq2 HK GW293 GW294); replace HB := am (hb); replace HI0 := am (hi); clear hb hk hi))
    replace HO_295000 := am (Kd.R_drew HO_295000.out)
    replace BK293 := zw BK293
    replace BK294 := zw BK294
    replace HI0 := am (IsS93.drew HI0.out)
    replace HK := am (keep_drew HK.out)
    replace HB := am (below_drew1 HB.out)
    refine start_ (n := 12) (S := fun w' => w'.cell? ⟨gb294, 0, none⟩ = some (u295000)) (ds := [11]) #[false, false, false, false, false, false, false, false, false, false, false, false] (by kernel_rfl) rfl rfl (ct BK294.out 0) (fun hHeld => ?_); refine with_tabW spec_l03Disk.tab6 spec_l03Disk.bits6 (fun HT_ HW_ => ?_)
    generalize w16.drew = w17 at HO_295000 BK293 BK294 HI0 HK HB hHeld ⊢
    refine zpu 1 20 #[false, true, false, false, false, false, false, false, false, false, false, false] HT_ ?_
    refine zpu 3 22 #[false, true, false, true, false, false, false, false, false, false, false, false] HT_ ?_
    refine zpu 4 23 #[false, true, false, true, true, false, false, false, false, false, false, false] HT_ ?_
    refine zpu 5 24 #[false, true, false, true, true, true, false, false, false, false, false, false] HT_ ?_
    refine zpu 6 25 #[false, true, false, true, true, true, true, false, false, false, false, false] HT_ ?_
    refine zpu 7 26 #[false, true, false, true, true, true, true, true, false, false, false, false] HT_ ?_
    refine ztk1 0 19 #[true, true, false, true, true, true, true, true, false, false, false, false] HT_ HW_ hHeld ?_
    refine zon 2 #[true, true, true, true, true, true, true, true, false, false, false, false] HT_ (fun K hK => ?_)
    refine goes_ Try.func68 (by kernel_rfl) rfl #[.pointer (some ⟨g, 0, none⟩)] (by rfl) rfl rfl zr ?_
    with_reducible refine (spec_l03Named.calls g s0_0 t302 t303 t304 t305 t306 w0 _ ?side1 ?side2 A11.out).mono ?_
    (case side1 => exact i93_2 HI0 NB0_293 NB0_294)
    (case side2 => exact zb3 HB.out (IsS93.ge HI0.out) GE293.out GE294.out)
    rintro e w18 ⟨rfl, hi, hb, hk⟩
    refine ⟨_, rfl, ?_⟩
    replace HO_295000 := i93_r hk (show IsS93 w0 _ g s0_0 t302 t303 from (i93_2 HI0 NB0_293 NB0_294)) HO_295000
    replace BK293 := zkb hk BK293 NB293_0
    replace BK294 := zkb hk BK294 NB294_0
    replace HK := zqt hk (zq2 HK GW293 GW294)
    replace HB := am (hb)
    replace HI0 := am (hi)
    refine hK.out _ _ (ct BK294.out 0) (fun hHeld => ?_)
    clear hK K
    refine znm 21 ?_
    refine zon 8 #[true, true, true, true, true, true, true, true, true, false, false, false] HT_ (fun K hK => ?_)
    refine goes_ Try.func66 (by kernel_rfl) rfl #[.pointer (some ⟨g, 0, none⟩), .int .i64 (wrap64 ((t301.size : Int) + 1))] (by rfl) rfl rfl zr ?_
    with_reducible refine (spec_l01Below.calls g s0_0 t305 t306 (wrap64 ((t301.size : Int) + 1)) t307 t308 t309 w0 _ ?side1 ?side2 A12.out).mono ?_
    (case side1 => exact i93_2 HI0 NB0_293 NB0_294)
    (case side2 => exact zb3 HB.out (IsS93.ge HI0.out) GE293.out GE294.out)
    rintro e w19 ⟨rfl, hi, hb, hk⟩
    refine ⟨_, rfl, ?_⟩
    replace HO_295000 := i93_r hk (show IsS93 w0 _ g s0_0 t305 t306 from (i93_2 HI0 NB0_293 NB0_294)) HO_295000
    replace BK293 := zkb hk BK293 NB293_0
    replace BK294 := zkb hk BK294 NB294_0
    replace HK := zqt hk (zq2 HK GW293 GW294)
    replace HB := am (hb)
    replace HI0 := am (hi)
    obtain ⟨Ao20, co20, eo20⟩ := Kd.R_slice HO_295000.out
    (first | subst eo20 | (injection eo20 with f1_ f2_ f3_; have f4_ := f1_.symm; have f5_ := f3_.symm; clear f1_ f2_ f3_; subst f4_; subst f5_))
    refine hK.out _ _ (ct BK294.out 0) (fun hHeld => ?_)
    clear hK K
    refine znm 27 ?_
    refine zpu 9 28 #[true, true, true, true, true, true, true, true, true, true, false, false] HT_ ?_
    refine zon 10 #[true, true, true, true, true, true, true, true, true, true, true, false] HT_ (fun K hK => ?_)
    refine goes_ Try.func35 (by kernel_rfl) rfl #[.agg #[.slice Ao20 x295000_1.length co20], .agg #[.string t304, .string t301, .int .i64 t307]] (by rfl) rfl rfl zr ?_
    with_reducible refine (spec_l03Put.calls k1 _ _ x295000_1 t304 t301 t307 t310 _ ?side1 ?side2 A13.out).mono ?_
    (case side1 => repeat (first | exact (Kd.R_reads' HO_295000.out).2.2 | (with_reducible refine Kd.C_alloc ?_ _) | (with_reducible refine Kd.C_drewN ?_ _) | (with_reducible refine Kd.C_drew ?_)))
    (case side2 => exact (Kd.R_reads' HO_295000.out).2.1)
    rintro e w21 ⟨v311, rfl, ho0, hb⟩
    refine ⟨_, rfl, ?_⟩
    have HO312 := am (Kd.R_lower (Kd.R_new' ho0 (Kd.R_lt (rx HO_295000.out))) (keep_size (w := w) (g := g) (row := none) (zq2 HK GW293 GW294)))
    replace HO_295000 := am (Kd.R_elder' (rx HO_295000.out) (Kd.R_base ho0) hb)
    replace BK293 := zk hb BK293
    replace BK294 := zk hb BK294
    replace HK := am (KeepBut.trans (zq2 HK GW293 GW294) (KeepBut.of_below hb g none) (.inl rfl))
    replace HB := am (below_step ((zb3 HB.out (IsS93.ge HI0.out) GE293.out GE294.out)) hb)
    replace HI0 := am (IsS93.below (i93_2 HI0 NB0_293 NB0_294) hb)
    obtain ⟨Ao22, co22, eo22⟩ := Kd.R_slice HO312.out
    (first | subst eo22 | (injection eo22 with f1_ f2_ f3_; have f4_ := f1_.symm; have f5_ := f3_.symm; clear f1_ f2_ f3_; subst f4_; subst f5_))
    refine hK.out _ _ (ct BK294.out 0) (fun hHeld => ?_)
    clear hK K
    refine znm 29 ?_
    refine last_ (i := 11) (N := none) #[true, true, true, true, true, true, true, true, true, true, true, true] rfl rfl (one_of HT_.out (by kernel_rfl)) (by decide) (fun K hK => ?_)
    have hs23 : w21.cell? ⟨gb294, 0, none⟩ = some (.slice Ao20 x295000_1.length co20) := ct BK294.out 0
    have hfs23 := blk_frozen BK294.out 0
    have hns23_0 := NB293_294.out
    have hms23_0 := NB294_293.out
    refine skip_ (w1 := ?_) (by rfl) rfl ?_ ?_
    rotate_left
    ·go_simp
     rfl
    refine hK.out _ _ ?_
    clear hK K
    refine zdn HT_ ?_
    try go_wp2
    go_roundg k1
    case measure => have := HK1.out; omega
    case rel => exact ⟨(wrap64 (x4_1 + 1)), (t308), (t309), (t310), (.slice Ao22 t310.length co22), (by first | rfl | (simp; done) | (simp [*]; done)), H', ⟨by have := HK1.out; omega⟩, ⟨rx (Kd.R_mono (Kd.R_far (p := ⟨gb294, 0, none⟩) (Kd.R_types HO312.out BK294.out (by decide)) (fun _ hk => hk.2) (.slice Ao22 t310.length co22)) (fun _ hk => trivial))⟩, ⟨zf1 BK293.out NB293_294.out⟩, ⟨by (with_reducible repeat (first | refine blk_drewN ?_ _ | refine blk_drew ?_ | refine blk_alloc ?_ _)); refine blk_put (cs := #[.slice Ao20 x295000_1.length co20]) ?_ 0 _ rfl; (with_reducible repeat (first | refine blk_drewN ?_ _ | refine blk_drew ?_ | refine blk_alloc ?_ _)); exact BK294.out⟩, ⟨(i93_2 HI0 NB0_293 NB0_294)⟩, ⟨(zq2 HK GW293 GW294)⟩, ⟨(zb3 HB.out (IsS93.ge HI0.out) GE293.out GE294.out)⟩⟩
   ·rw [if_neg c8] at H
    have c8b0 : decide (x4_1 < t295) = false := decide_eq_false c8
    have c8b1 : decide (t295 ≤ x4_1) = true := decide_eq_true (by omega)
    clear c8
    by_cases c24 : (x295000_1.length : Int) = 0
    ·rw [if_pos c24] at H
     have c24b0 : ((x295000_1.length : Int) == 0) = true := beq_iff_eq.mpr c24
     have c24b1 : ((x295000_1.length : Int) != 0) = false := bne_eq_false_iff_eq.mpr c24
     clear c24
     simp only [Option.some.injEq, Prod.mk.injEq] at H
     obtain ⟨rfl, rfl, rfl⟩ := H
     go_wp2_with (first | ((with_reducible refine gate_callee (f := 66) rfl ?_); refine goesL_ (some 11) rfl rfl Try.func66 (by kernel_rfl) rfl #[.pointer (some ⟨g, 0, none⟩), .int .i64 6] rfl zr ?_; (with_reducible refine (spec_l01Below.calls g s0_0 x1001_1 x1002_1 6 t295 t296 t297 w0 _ ?side1 ?side2 A7.out).mono ?_); (case side1 => exact i93_2 HI0 NB0_293 NB0_294); (case side2 => exact zb3 HB.out (IsS93.ge HI0.out) GE293.out GE294.out); rintro e w25 ⟨rfl, hi, hb, hk⟩; refine ⟨_, rfl, ?_⟩; replace HO_295000 := i93_r hk (show IsS93 w0 _ g s0_0 x1001_1 x1002_1 from (i93_2 HI0 NB0_293 NB0_294)) HO_295000; replace BK293 := zkb hk BK293 NB293_0; replace BK294 := zkb hk BK294 NB294_0; replace HK := zqt hk (zq2 HK GW293 GW294); replace HB := am (hb); replace HI0 := am (hi); clear hb hk hi; obtain ⟨hnb26, hnc26⟩ := zn2 NB294_293; obtain ⟨hnb27, hnc27⟩ := zn2 NB294_0; obtain ⟨hcz28_0, hfz28_0⟩ := zc1 BK294.out; obtain ⟨Ao29, co29, eo29⟩ := Kd.R_slice HO_295000.out; subst eo29; obtain ⟨hnb30, hnc30⟩ := zn2 NB293_0; obtain ⟨hcz31_0, hfz31_0⟩ := zc1 BK293.out))
     refine bodyPost_ret (results_cell_row rfl _ _ gb293 31 #[.slice Ao29 x295000_1.length co29] (0, 0) _ rfl (zp0 BK293.out) Try.underlying31 rfl (by kernel_rfl)) rfl ?_
     exact ⟨_, by first | rfl | (simp [errW_none, errW_some] <;> rfl) | (simp [*, errW_none, errW_some] <;> rfl), rx (Kd.R_mono (Kd.R_far (p := ⟨gb293, 0, none⟩) (Kd.R_types HO_295000.out BK293.out (by decide)) (fun _ hk => hk.2) (.slice Ao29 x295000_1.length co29)) (fun _ hk => trivial)), (i93_2 HI0 NB0_293 NB0_294), (zb3 HB.out (IsS93.ge HI0.out) GE293.out GE294.out), (zq2 HK GW293 GW294)⟩
    ·rw [if_neg c24] at H
     have c24b0 : ((x295000_1.length : Int) == 0) = false := beq_eq_false_iff_ne.mpr c24
     have c24b1 : ((x295000_1.length : Int) != 0) = true := bne_iff_ne.mpr c24
     have c24b2 : ¬ (x295000_1 = []) := fun h_ => c24 (by rw [h_]; rfl)
     replace H := Option.bind_eq_some_iff.mp H
     obtain ⟨⟨t313, t314, t315⟩, A320, H⟩ := H
     try dsimp only at H
     have A32 := Aside0.mk A320
     clear A320
     replace H := Option.bind_eq_some_iff.mp H
     obtain ⟨⟨t316, t317, t318⟩, A330, H⟩ := H
     try dsimp only at H
     have A33 := Aside0.mk A330
     clear A330
     by_cases c34 : t316 = 0
     ·rw [if_pos c34] at H
      have c34b0 : (t316 == 0) = true := beq_iff_eq.mpr c34
      have c34b1 : (t316 != 0) = false := bne_eq_false_iff_eq.mpr c34
      clear c34
      by_cases c35 : 0 ≤ t313
      ·rw [if_pos c35] at H
       have c35b0 : decide (0 ≤ t313) = true := decide_eq_true c35
       clear c35
       by_cases c36 : t313 < (x295000_1.length : Int)
       ·rw [if_pos c36] at H
        have c36b0 : decide (t313 < (x295000_1.length : Int)) = true := decide_eq_true c36
        have c36b1 : decide ((x295000_1.length : Int) ≤ t313) = false := decide_eq_false (by omega)
        clear c36
        obtain ⟨y320, hy320⟩ : ∃ y_ : List Int, y_ = (([(-1), wrap64 ((((rd_T66 x295000_1 t313).f1).size : Int) + 1)] : List Int)) := ⟨_, rfl⟩
        replace H : ((spec_l01PickInt.f s0_0 t317 t318 y320).bind fun bt323 => (some ((x295000_1.set (t313 : Int).toNat (⟨(rd_T66 x295000_1 t313).f0, (rd_T66 x295000_1 t313).f1, bt323.1⟩ : S66)), bt323.2.1, bt323.2.2))) = some (r1, r2, r3) := by first | (rw [hy320]; with_reducible exact H) | (have H2_ := (Option.bind_some _ _).symm.trans H; rw [hy320]; with_reducible exact H2_) | (have H2_ := (Option.bind_some _ _).symm.trans H; with_reducible exact H2_) | with_reducible exact H | (rw [hy320]; exact H) | exact H
        have Ny320 := Aside0.mk hy320
        clear hy320
        replace H := Option.bind_eq_some_iff.mp H
        obtain ⟨⟨t323, t324, t325⟩, A370, H⟩ := H
        try dsimp only at H
        have A37 := Aside0.mk A370
        clear A370
        obtain ⟨y326, hy326⟩ : ∃ y_ : List (S66), y_ = (x295000_1.set (t313 : Int).toNat (⟨(rd_T66 x295000_1 t313).f0, (rd_T66 x295000_1 t313).f1, t323⟩ : S66)) := ⟨_, rfl⟩
        replace H : (some (y326, t324, t325)) = some (r1, r2, r3) := by first | (rw [hy326]; with_reducible exact H) | (have H2_ := (Option.bind_some _ _).symm.trans H; rw [hy326]; with_reducible exact H2_) | (have H2_ := (Option.bind_some _ _).symm.trans H; with_reducible exact H2_) | with_reducible exact H | (rw [hy326]; exact H) | exact H
        have Ny326 := Aside0.mk hy326
        clear hy326
        simp only [Option.some.injEq, Prod.mk.injEq] at H
        obtain ⟨rfl, rfl, rfl⟩ := H
        try go_wp2_with (first | ((with_reducible refine gate_callee (f := 66) rfl ?_); refine goesL_ (some 11) rfl rfl Try.func66 (by kernel_rfl) rfl #[.pointer (some ⟨g, 0, none⟩), .int .i64 6] rfl zr ?_; (with_reducible refine (spec_l01Below.calls g s0_0 x1001_1 x1002_1 6 t295 t296 t297 w0 _ ?side1 ?side2 A7.out).mono ?_); (case side1 => exact i93_2 HI0 NB0_293 NB0_294); (case side2 => exact zb3 HB.out (IsS93.ge HI0.out) GE293.out GE294.out); rintro e w39 ⟨rfl, hi, hb, hk⟩; refine ⟨_, rfl, ?_⟩; replace HO_295000 := i93_r hk (show IsS93 w0 _ g s0_0 x1001_1 x1002_1 from (i93_2 HI0 NB0_293 NB0_294)) HO_295000; replace BK293 := zkb hk BK293 NB293_0; replace BK294 := zkb hk BK294 NB294_0; replace HK := zqt hk (zq2 HK GW293 GW294); replace HB := am (hb); replace HI0 := am (hi); clear hb hk hi; obtain ⟨hnb40, hnc40⟩ := zn2 NB294_293; obtain ⟨hnb41, hnc41⟩ := zn2 NB294_0; obtain ⟨hcz42_0, hfz42_0⟩ := zc1 BK294.out; obtain ⟨Ao43, co43, eo43⟩ := Kd.R_slice HO_295000.out; subst eo43) | ((with_reducible refine gate_callee (f := 66) rfl ?_); refine goesL_ (some 39) rfl rfl Try.func66 (by kernel_rfl) rfl #[.pointer (some ⟨g, 0, none⟩), .int .i64 (x295000_1.length : Int)] rfl zr ?_; (with_reducible refine (spec_l01Below.calls g s0_0 t296 t297 (x295000_1.length : Int) t313 t314 t315 w0 _ ?side1 ?side2 A32.out).mono ?_); (case side1 => exact i93_2 HI0 NB0_293 NB0_294); (case side2 => exact zb3 HB.out (IsS93.ge HI0.out) GE293.out GE294.out); rintro e w44 ⟨rfl, hi, hb, hk⟩; refine ⟨_, rfl, ?_⟩; replace HO_295000 := i93_r hk (show IsS93 w0 _ g s0_0 t296 t297 from (i93_2 HI0 NB0_293 NB0_294)) HO_295000; replace BK293 := zkb hk BK293 NB293_0; replace BK294 := zkb hk BK294 NB294_0; replace HK := zqt hk (zq2 HK GW293 GW294); replace HB := am (hb); replace HI0 := am (hi); clear hb hk hi) | ((with_reducible refine gate_callee (f := 66) rfl ?_); refine goesL_ (some 41) rfl rfl Try.func66 (by kernel_rfl) rfl #[.pointer (some ⟨g, 0, none⟩), .int .i64 40] rfl zr ?_; (with_reducible refine (spec_l01Below.calls g s0_0 t314 t315 40 t316 t317 t318 w0 _ ?side1 ?side2 A33.out).mono ?_); (case side1 => exact i93_2 HI0 NB0_293 NB0_294); (case side2 => exact zb3 HB.out (IsS93.ge HI0.out) GE293.out GE294.out); rintro e w45 ⟨rfl, hi, hb, hk⟩; refine ⟨_, rfl, ?_⟩; replace HO_295000 := i93_r hk (show IsS93 w0 _ g s0_0 t314 t315 from (i93_2 HI0 NB0_293 NB0_294)) HO_295000; replace BK293 := zkb hk BK293 NB293_0; replace BK294 := zkb hk BK294 NB294_0; replace HK := zqt hk (zq2 HK GW293 GW294); replace HB := am (hb); replace HI0 := am (hi); clear hb hk hi))
        replace HO_295000 := am (Kd.R_drew HO_295000.out)
        replace BK293 := zw BK293
        replace BK294 := zw BK294
        replace HI0 := am (IsS93.drew HI0.out)
        replace HK := am (keep_drew HK.out)
        replace HB := am (below_drew1 HB.out)
        have p319 : 0 ≤ (t313 : Int) := zpq
        have q319 : t313 < (x295000_1.length : Int) := zpq
        obtain ⟨ad319, e319, hx319_0, hx319_1, hx319_2⟩ := at_T66 (Kd.R_reads' HO_295000.out).2.2 t313 p319 q319
        cases e319
        replace p319 := eq_true p319
        replace q319 := eq_true q319
        refine start_ (n := 17) (S := fun w' => w'.cell? ⟨gb294, 0, none⟩ = some (.slice (some ad319) x295000_1.length co43) ∧ w'.cell? (ad319.add ((t313).toNat * 3)) = some (.string ((rd_T66 x295000_1 t313).f0)) ∧ w'.cell? ⟨(ad319.add ((t313).toNat * 3)).block, (ad319.add ((t313).toNat * 3)).off + 1, none⟩ = some (.string ((rd_T66 x295000_1 t313).f1)) ∧ w'.cell? ⟨(ad319.add ((t313).toNat * 3)).block, (ad319.add ((t313).toNat * 3)).off + 2, none⟩ = some (.int .i64 ((rd_T66 x295000_1 t313).f2))) (ds := [16]) #[false, false, false, false, false, false, false, false, false, false, false, false, false, false, false, false, false] (by kernel_rfl) rfl rfl ⟨ct BK294.out 0, hx319_0, hx319_1, hx319_2⟩ (fun hHeld => ?_); refine with_tabW spec_l03Disk.tab12 spec_l03Disk.bits12 (fun HT_ HW_ => ?_)
        generalize w45.drew = w46 at HO_295000 BK293 BK294 HI0 HK HB hx319_0 hx319_1 hx319_2 hHeld ⊢
        refine zpu 0 44 #[true, false, false, false, false, false, false, false, false, false, false, false, false, false, false, false, false] HT_ ?_
        refine zpu 2 46 #[true, false, true, false, false, false, false, false, false, false, false, false, false, false, false, false, false] HT_ ?_
        refine zpu 3 47 #[true, false, true, true, false, false, false, false, false, false, false, false, false, false, false, false, false] HT_ ?_
        refine zpu 4 48 #[true, false, true, true, true, false, false, false, false, false, false, false, false, false, false, false, false] HT_ ?_
        refine zpu 6 50 #[true, false, true, true, true, false, true, false, false, false, false, false, false, false, false, false, false] HT_ ?_
        refine ztk4 1 45 #[true, true, true, true, true, false, true, false, false, false, false, false, false, false, false, false, false] HT_ HW_ hHeld ?_
        refine ztk4 5 49 #[true, true, true, true, true, true, true, false, false, false, false, false, false, false, false, false, false] HT_ HW_ hHeld ?_
        refine zpu 7 51 #[true, true, true, true, true, true, true, true, false, false, false, false, false, false, false, false, false] HT_ ?_
        refine zpu 8 52 #[true, true, true, true, true, true, true, true, true, false, false, false, false, false, false, false, false] HT_ ?_
        refine ztk4 9 53 #[true, true, true, true, true, true, true, true, true, true, false, false, false, false, false, false, false] HT_ HW_ hHeld ?_
        refine zpu 10 54 #[true, true, true, true, true, true, true, true, true, true, true, false, false, false, false, false, false] HT_ ?_
        refine zpu 11 55 #[true, true, true, true, true, true, true, true, true, true, true, true, false, false, false, false, false] HT_ ?_
        refine zon 12 #[true, true, true, true, true, true, true, true, true, true, true, true, true, false, false, false, false] HT_ (fun K hK => ?_)
        refine Kd.R_lit_step (Kd.int .i64) _ 3 ?hg (N := 56) ?hd (xs := ([(-1), wrap64 ((((rd_T66 x295000_1 t313).f1).size : Int) + 1)] : List Int)) (inner := [.int .i64 (-1), .int .i64 (wrap64 ((((rd_T66 x295000_1 t313).f1).size : Int) + 1))]) (ok := fun _ => True) (okp := fun _ => True) ?hr ?hp (fun _ hk => hk) trivial (Below.refl _ _) (Nat.le_refl _) (by simp) ?_; (case hd => rfl); (case hg => rfl); (case hr => first | (go_simp; done) | (go_simp; rfl)); (case hp => exact (Reps.one (show Kd.M (Kd.int .i64) _ _ _ (-1) [.int .i64 (-1)] from rfl) (Reps.one (show Kd.M (Kd.int .i64) _ _ _ (wrap64 ((((rd_T66 x295000_1 t313).f1).size : Int) + 1)) [.int .i64 (wrap64 ((((rd_T66 x295000_1 t313).f1).size : Int) + 1))] from rfl) (Reps.none _ _))))
        intro v321 w47 ho48 hb hg_ hnew_
        have HS1_ := (hb.cell (World.block_lt_of_cell? _ _ (hHeld.2.1))).trans (hHeld.2.1)
        have HS2_ := (hb.cell (World.block_lt_of_cell? _ _ (hHeld.2.2.1))).trans (hHeld.2.2.1)
        have HS3_ := (hb.cell (World.block_lt_of_cell? _ _ (hHeld.2.2.2))).trans (hHeld.2.2.2)
        clear hg_ hnew_
        (first | rw [← Ny320.out] at ho48 | (simp only [Int.reduceToNat] at ho48; rw [← Ny320.out] at ho48))
        have HO322 := am (Kd.R_lower ho48 (keep_size (w := w) (g := g) (row := none) (zq2 HK GW293 GW294)))
        replace HO_295000 := zo hb HO_295000
        replace BK293 := zk hb BK293
        replace BK294 := zk hb BK294
        replace HK := am (KeepBut.trans (zq2 HK GW293 GW294) (KeepBut.of_below hb g none) (.inl rfl))
        replace HB := am (below_step ((zb3 HB.out (IsS93.ge HI0.out) GE293.out GE294.out)) hb)
        replace HI0 := am (IsS93.below (i93_2 HI0 NB0_293 NB0_294) hb)
        clear hb ho48
        obtain ⟨Ao49, co49, eo49⟩ := Kd.R_slice HO322.out
        (first | subst eo49 | (injection eo49 with f1_ f2_ f3_; have f4_ := f1_.symm; have f5_ := f3_.symm; clear f1_ f2_ f3_; subst f4_; subst f5_))
        refine hK.out _ _ ⟨ct BK294.out 0, HS1_, HS2_, HS3_⟩ (fun hHeld => ?_)
        clear hK K
        refine znm 56 ?_
        refine zon 13 #[true, true, true, true, true, true, true, true, true, true, true, true, true, true, false, false, false] HT_ (fun K hK => ?_)
        refine goes_ Try.func69 (by kernel_rfl) rfl #[.pointer (some ⟨g, 0, none⟩), .slice Ao49 y320.length co49] (by rfl) rfl rfl zr ?_
        with_reducible refine (spec_l01PickInt.calls g s0_0 t317 t318 _ _ y320 t323 t324 t325 w0 _ ?side1 ?side2 ?side3 ?side4 ?side5 A37.out).mono ?_
        (case side1 => exact i93_2 HI0 NB0_293 NB0_294)
        (case side2 => exact zb3 HB.out (IsS93.ge HI0.out) GE293.out GE294.out)
        (case side3 => repeat (first | exact (Kd.R_reads' HO322.out).2.2 | (with_reducible refine Kd.C_alloc ?_ _) | (with_reducible refine Kd.C_drewN ?_ _) | (with_reducible refine Kd.C_drew ?_)))
        (case side4 => exact (Kd.R_reads' HO322.out).2.1)
        (case side5 => exact far_slice (IsS93.own_ne HI0.out HO322.out (by decide)))
        rintro e w50 ⟨rfl, hi, hb, hk⟩
        have HS1_ := keep_cell hk (hHeld.2.1) (by first | (rw [add_block]; exact Kd.own_blk (IsS93.own_ne HI0.out HO_295000.out (by decide))) | (show (Addr.add _ _).block ≠ _; rw [add_block]; exact Kd.own_blk (IsS93.own_ne HI0.out HO_295000.out (by decide))) | exact Kd.own_blk (IsS93.own_ne HI0.out HO_295000.out (by decide)))
        have HS2_ := keep_cell hk (hHeld.2.2.1) (by first | (rw [add_block]; exact Kd.own_blk (IsS93.own_ne HI0.out HO_295000.out (by decide))) | (show (Addr.add _ _).block ≠ _; rw [add_block]; exact Kd.own_blk (IsS93.own_ne HI0.out HO_295000.out (by decide))) | exact Kd.own_blk (IsS93.own_ne HI0.out HO_295000.out (by decide)))
        have HS3_ := keep_cell hk (hHeld.2.2.2) (by first | (rw [add_block]; exact Kd.own_blk (IsS93.own_ne HI0.out HO_295000.out (by decide))) | (show (Addr.add _ _).block ≠ _; rw [add_block]; exact Kd.own_blk (IsS93.own_ne HI0.out HO_295000.out (by decide))) | exact Kd.own_blk (IsS93.own_ne HI0.out HO_295000.out (by decide)))
        refine ⟨_, rfl, ?_⟩
        replace HO_295000 := i93_r hk (show IsS93 w0 _ g s0_0 t317 t318 from (i93_2 HI0 NB0_293 NB0_294)) HO_295000
        replace BK293 := zkb hk BK293 NB293_0
        replace BK294 := zkb hk BK294 NB294_0
        replace HO322 := i93_r hk (show IsS93 w0 _ g s0_0 t317 t318 from (i93_2 HI0 NB0_293 NB0_294)) HO322
        replace HK := zqt hk (zq2 HK GW293 GW294)
        replace HB := am (hb)
        replace HI0 := am (hi)
        have p38 : 0 ≤ (t313 : Int) := zpq
        have q38 : (t313 : Int) < ((x295000_1.length : Int) : Int) := zpq
        obtain ⟨go38, co38, eo38, gb38, gl38, cl38, HG38⟩ := Kd.R_form HO_295000.out (by omega)
        (first | cases eo38 | (injection eo38 with ea_ en_ ec_; (first | subst ea_ | (injection ea_ with ea_; subst ea_)); subst ec_; clear en_))
        have GB38 := Aside0.mk gb38
        have GG38 := Aside0.mk HG38
        clear gb38 gl38 HG38
        (first | simp only [add_plain] at hx319_0 | skip)
        (first | simp only [add_plain] at hx319_1 | skip)
        (first | simp only [add_plain] at hx319_2 | skip)
        obtain ⟨ce38, hcl38, hM38, hcc38, hfr38⟩ := Kd.R_elem HO_295000.out z66 (t313 : Int) p38 q38
        obtain rfl := k66_openM hM38
        have hx38_0 : World.cell? _ ⟨go38, (t313 : Int).toNat * 3, none⟩ = some (.string ((rd_T66 x295000_1 t313).f0)) := hcc38 0 _ rfl
        have hx38_1 : World.cell? _ ⟨go38, (t313 : Int).toNat * 3 + 1, none⟩ = some (.string ((rd_T66 x295000_1 t313).f1)) := hcc38 1 _ rfl
        have hx38_2 : World.cell? _ ⟨go38, (t313 : Int).toNat * 3 + 2, none⟩ = some (.int .i64 ((rd_T66 x295000_1 t313).f2)) := hcc38 2 _ rfl
        have hf38_0 : World.frozen? _ ⟨go38, (t313 : Int).toNat * 3, none⟩ = false := hfr38 0
        have hf38_1 : World.frozen? _ ⟨go38, (t313 : Int).toNat * 3 + 1, none⟩ = false := hfr38 1
        have hf38_2 : World.frozen? _ ⟨go38, (t313 : Int).toNat * 3 + 2, none⟩ = false := hfr38 2
        clear hcl38 hcc38 hfr38 hM38
        replace p38 := eq_true p38
        replace q38 := eq_true q38
        have HN0_go38 := Aside0.mk (show g ≠ go38 from by have h_ := IsS93.own_ne HI0.out HO_295000.out (by decide); intro e_; exact h_ (by rw [e_]; rfl))
        obtain ⟨ce51, hcl51, hM51, hcc51, hfr51⟩ := Kd.R_elem HO_295000.out z66 (t313 : Int) (of_decide_eq_true (by first | (with_reducible assumption) | assumption)) (by have h_ : (t313 : Int) < ((x295000_1.length : Int) : Int) := of_decide_eq_true (by first | (with_reducible assumption) | assumption); first | exact h_ | (have e_ := (Kd.R_reads' HO_295000.out).1; omega) | simpa using h_)
        obtain rfl := k66_openM hM51
        have HP51 := (Kd.R_seg HO_295000.out (t313 : Int) (of_decide_eq_true (by first | (with_reducible assumption) | assumption)) (by have h_ : (t313 : Int) < ((x295000_1.length : Int) : Int) := of_decide_eq_true (by first | (with_reducible assumption) | assumption); first | exact h_ | (have e_ := (Kd.R_reads' HO_295000.out).1; omega) | simpa using h_) (seg := [.int .i64 t323]) (j := 2) hcl51 hcc51 (show 3 ≤ 3 from by decide) (x' := (⟨(rd_T66 x295000_1 t313).f0, (rd_T66 x295000_1 t313).f1, t323⟩ : S66)) (k66_mkM _ _ _ (⟨(rd_T66 x295000_1 t313).f0, (rd_T66 x295000_1 t313).f1, t323⟩ : S66) ) (fun _ hk => hk)).1
        rw [← Ny326.out] at HP51
        have HQ51 := Aside0.mk HP51
        clear hcl51 hcc51 hfr51 hM51 HP51
        refine hK.out _ _ ⟨ct BK294.out 0, HS1_, HS2_, HS3_⟩ (fun hHeld => ?_)
        clear hK K
        refine znm 57 ?_
        refine zpu 14 58 #[true, true, true, true, true, true, true, true, true, true, true, true, true, true, true, false, false] HT_ ?_
        refine zpu 15 59 #[true, true, true, true, true, true, true, true, true, true, true, true, true, true, true, true, false] HT_ ?_
        refine last_ (i := 16) (N := none) #[true, true, true, true, true, true, true, true, true, true, true, true, true, true, true, true, true] rfl rfl (one_of HT_.out (by kernel_rfl)) (by decide) (fun K hK => ?_)
        refine skip_ (w1 := ?_) (by rfl) rfl ?_ ?_
        rotate_left
        ·go_simp
         rfl
        refine hK.out _ _ ?_
        clear hK K
        refine zdn HT_ ?_
        have n0_ : Aside0 (Kd.R k66 66 (w50.setCell ⟨go38, (t313 : Int).toNat * 3 + 2, none⟩ (.int .i64 t323)) w.heap.size (fun _ => True) (.slice (some ⟨go38, 0, none⟩) x295000_1.length co43) y326) := ⟨rx HQ51.out⟩
        have n1_ : Aside0 (Kd.R (Kd.int .i64) 3 (w50.setCell ⟨go38, (t313 : Int).toNat * 3 + 2, none⟩ (.int .i64 t323)) w.heap.size (fun _ => True) (.slice Ao49 y320.length co49) y320) := ⟨rx (Kd.R_mono (Kd.R_far (p := ⟨go38, (t313 : Int).toNat * 3 + 2, none⟩) (Kd.R_types HO322.out GG38.out (by decide)) (fun _ hk => hk.2) (.int .i64 t323)) (fun _ hk => trivial))⟩
        have n2_ : Aside0 ((w50.setCell ⟨go38, (t313 : Int).toNat * 3 + 2, none⟩ (.int .i64 t323)).heap[gb293]? = some (.cells #[.slice none 0 0] 31 (0, 0))) := ⟨by (with_reducible repeat (first | refine blk_drewN ?_ _ | refine blk_drew ?_ | refine blk_alloc ?_ _)); refine blk_far ?_ (by have h_ := Kd.R_ne HO_295000.out BK293.out (by decide); intro e_; exact h_ (by rw [e_]; rfl)) _; (with_reducible repeat (first | refine blk_drewN ?_ _ | refine blk_drew ?_ | refine blk_alloc ?_ _)); exact BK293.out⟩
        have n3_ : Aside0 ((w50.setCell ⟨go38, (t313 : Int).toNat * 3 + 2, none⟩ (.int .i64 t323)).heap[gb294]? = some (.cells #[.slice (some ⟨go38, 0, none⟩) x295000_1.length co43] 31 (0, 0))) := ⟨by (with_reducible repeat (first | refine blk_drewN ?_ _ | refine blk_drew ?_ | refine blk_alloc ?_ _)); refine blk_far ?_ (by have h_ := Kd.R_ne HO_295000.out BK294.out (by decide); intro e_; exact h_ (by rw [e_]; rfl)) _; (with_reducible repeat (first | refine blk_drewN ?_ _ | refine blk_drew ?_ | refine blk_alloc ?_ _)); exact BK294.out⟩
        have n4_ : Aside0 (IsS93 w0 (w50.setCell ⟨go38, (t313 : Int).toNat * 3 + 2, none⟩ (.int .i64 t323)) g s0_0 t324 t325) := ⟨(i93_3 HI0 HN0_go38 NB0_293 NB0_294)⟩
        have n5_ : Aside0 (KeepBut w (w50.setCell ⟨go38, (t313 : Int).toNat * 3 + 2, none⟩ (.int .i64 t323)) g none) := ⟨(zq3 HK GB38 GW293 GW294)⟩
        have n6_ : Aside0 (Below w0.heap.size w0 (w50.setCell ⟨go38, (t313 : Int).toNat * 3 + 2, none⟩ (.int .i64 t323))) := ⟨by repeat (first | (with_reducible first | exact HB.out | apply below_alloc | apply pw_below_drewN | apply below_drew1 | refine below_set ?_ (Nat.le_trans HL.out GB38.out) | refine below_set ?_ (IsS93.ge HI0.out) | refine below_set ?_ GE293.out | refine below_set ?_ GE294.out) | exact HB.out)⟩
        generalize (w50.setCell ⟨go38, (t313 : Int).toNat * 3 + 2, none⟩ (.int .i64 t323)) = w52 at n0_ n1_ n2_ n3_ n4_ n5_ n6_ ⊢
        have HO_295000 := n0_
        have HO322 := n1_
        have BK293 := n2_
        have BK294 := n3_
        have HI0 := n4_
        have HK := n5_
        have HB := n6_
        clear n0_ n1_ n2_ n3_ n4_ n5_ n6_
        obtain ⟨hcz53_0, hfz53_0⟩ := zc1 BK294.out
        obtain ⟨hnb54, hnc54⟩ := zn2 NB293_0
        obtain ⟨hcz55_0, hfz55_0⟩ := zc1 BK293.out
        try go_wp2
        refine bodyPost_ret (results_cell_row rfl _ _ gb293 31 #[.slice (some ⟨go38, 0, none⟩) x295000_1.length co43] (0, 0) _ rfl (zp0 BK293.out) Try.underlying31 rfl (by kernel_rfl)) rfl ?_
        exact ⟨_, by first | rfl | (simp [errW_none, errW_some] <;> rfl) | (simp [*, errW_none, errW_some] <;> rfl), rx (Kd.R_mono (Kd.R_far (p := ⟨gb293, 0, none⟩) (Kd.R_types HO_295000.out BK293.out (by decide)) (fun _ hk => hk.2) (.slice (some ⟨go38, 0, none⟩) x295000_1.length co43)) (fun _ hk => trivial)), (i93_2 HI0 NB0_293 NB0_294), (zb3 HB.out (IsS93.ge HI0.out) GE293.out GE294.out), (zq2 HK GW293 GW294)⟩
       ·rw [if_neg c36] at H
        exact absurd H (by simp)
      ·rw [if_neg c35] at H
       exact absurd H (by simp)
     ·rw [if_neg c34] at H
      have c34b0 : (t316 == 0) = false := beq_eq_false_iff_ne.mpr c34
      have c34b1 : (t316 != 0) = true := bne_iff_ne.mpr c34
      by_cases c56 : t316 = 1
      ·rw [if_pos c56] at H
       have c56b0 : (t316 == 1) = true := beq_iff_eq.mpr c56
       have c56b1 : (t316 != 1) = false := bne_eq_false_iff_eq.mpr c56
       clear c56
       by_cases c57 : 0 ≤ t313
       ·rw [if_pos c57] at H
        have c57b0 : decide (0 ≤ t313) = true := decide_eq_true c57
        clear c57
        by_cases c58 : t313 < (x295000_1.length : Int)
        ·rw [if_pos c58] at H
         have c58b0 : decide (t313 < (x295000_1.length : Int)) = true := decide_eq_true c58
         have c58b1 : decide ((x295000_1.length : Int) ≤ t313) = false := decide_eq_false (by omega)
         clear c58
         by_cases c59 : x295000_1.length < 3518437208883
         ·rw [if_pos c59] at H
          have LMc59 := Aside0.mk c59
          clear c59
          obtain ⟨y328, hy328⟩ : ∃ y_ : List (S66), y_ = (x295000_1 ++ [(⟨(rd_T66 x295000_1 t313).f0, (rd_T66 x295000_1 t313).f1, (rd_T66 x295000_1 t313).f2⟩ : S66)]) := ⟨_, rfl⟩
          replace H : (some (y328, t317, t318)) = some (r1, r2, r3) := by first | (rw [hy328]; with_reducible exact H) | (have H2_ := (Option.bind_some _ _).symm.trans H; rw [hy328]; with_reducible exact H2_) | (have H2_ := (Option.bind_some _ _).symm.trans H; with_reducible exact H2_) | with_reducible exact H | (rw [hy328]; exact H) | exact H
          have Ny328 := Aside0.mk hy328
          clear hy328
          simp only [Option.some.injEq, Prod.mk.injEq] at H
          obtain ⟨rfl, rfl, rfl⟩ := H
          try go_wp2_with (first | ((with_reducible refine gate_callee (f := 66) rfl ?_); refine goesL_ (some 11) rfl rfl Try.func66 (by kernel_rfl) rfl #[.pointer (some ⟨g, 0, none⟩), .int .i64 6] rfl zr ?_; (with_reducible refine (spec_l01Below.calls g s0_0 x1001_1 x1002_1 6 t295 t296 t297 w0 _ ?side1 ?side2 A7.out).mono ?_); (case side1 => exact i93_2 HI0 NB0_293 NB0_294); (case side2 => exact zb3 HB.out (IsS93.ge HI0.out) GE293.out GE294.out); rintro e w60 ⟨rfl, hi, hb, hk⟩; refine ⟨_, rfl, ?_⟩; replace HO_295000 := i93_r hk (show IsS93 w0 _ g s0_0 x1001_1 x1002_1 from (i93_2 HI0 NB0_293 NB0_294)) HO_295000; replace BK293 := zkb hk BK293 NB293_0; replace BK294 := zkb hk BK294 NB294_0; replace HK := zqt hk (zq2 HK GW293 GW294); replace HB := am (hb); replace HI0 := am (hi); clear hb hk hi; obtain ⟨hnb61, hnc61⟩ := zn2 NB294_293; obtain ⟨hnb62, hnc62⟩ := zn2 NB294_0; obtain ⟨hcz63_0, hfz63_0⟩ := zc1 BK294.out; obtain ⟨Ao64, co64, eo64⟩ := Kd.R_slice HO_295000.out; subst eo64) | ((with_reducible refine gate_callee (f := 66) rfl ?_); refine goesL_ (some 39) rfl rfl Try.func66 (by kernel_rfl) rfl #[.pointer (some ⟨g, 0, none⟩), .int .i64 (x295000_1.length : Int)] rfl zr ?_; (with_reducible refine (spec_l01Below.calls g s0_0 t296 t297 (x295000_1.length : Int) t313 t314 t315 w0 _ ?side1 ?side2 A32.out).mono ?_); (case side1 => exact i93_2 HI0 NB0_293 NB0_294); (case side2 => exact zb3 HB.out (IsS93.ge HI0.out) GE293.out GE294.out); rintro e w65 ⟨rfl, hi, hb, hk⟩; refine ⟨_, rfl, ?_⟩; replace HO_295000 := i93_r hk (show IsS93 w0 _ g s0_0 t296 t297 from (i93_2 HI0 NB0_293 NB0_294)) HO_295000; replace BK293 := zkb hk BK293 NB293_0; replace BK294 := zkb hk BK294 NB294_0; replace HK := zqt hk (zq2 HK GW293 GW294); replace HB := am (hb); replace HI0 := am (hi); clear hb hk hi) | ((with_reducible refine gate_callee (f := 66) rfl ?_); refine goesL_ (some 41) rfl rfl Try.func66 (by kernel_rfl) rfl #[.pointer (some ⟨g, 0, none⟩), .int .i64 40] rfl zr ?_; (with_reducible refine (spec_l01Below.calls g s0_0 t314 t315 40 t316 t317 t318 w0 _ ?side1 ?side2 A33.out).mono ?_); (case side1 => exact i93_2 HI0 NB0_293 NB0_294); (case side2 => exact zb3 HB.out (IsS93.ge HI0.out) GE293.out GE294.out); rintro e w66 ⟨rfl, hi, hb, hk⟩; refine ⟨_, rfl, ?_⟩; replace HO_295000 := i93_r hk (show IsS93 w0 _ g s0_0 t314 t315 from (i93_2 HI0 NB0_293 NB0_294)) HO_295000; replace BK293 := zkb hk BK293 NB293_0; replace BK294 := zkb hk BK294 NB294_0; replace HK := zqt hk (zq2 HK GW293 GW294); replace HB := am (hb); replace HI0 := am (hi); clear hb hk hi))
          replace HO_295000 := am (Kd.R_drew HO_295000.out)
          replace BK293 := zw BK293
          replace BK294 := zw BK294
          replace HI0 := am (IsS93.drew HI0.out)
          replace HK := am (keep_drew HK.out)
          replace HB := am (below_drew1 HB.out)
          have p327 : 0 ≤ (t313 : Int) := zpq
          have q327 : t313 < (x295000_1.length : Int) := zpq
          obtain ⟨ad327, e327, hx327_0, hx327_1, hx327_2⟩ := at_T66 (Kd.R_reads' HO_295000.out).2.2 t313 p327 q327
          cases e327
          replace p327 := eq_true p327
          replace q327 := eq_true q327
          refine start_ (n := 11) (S := fun w' => w'.cell? ⟨gb294, 0, none⟩ = some (.slice (some ad327) x295000_1.length co64) ∧ w'.cell? (ad327.add ((t313).toNat * 3)) = some (.string ((rd_T66 x295000_1 t313).f0)) ∧ w'.cell? ⟨(ad327.add ((t313).toNat * 3)).block, (ad327.add ((t313).toNat * 3)).off + 1, none⟩ = some (.string ((rd_T66 x295000_1 t313).f1)) ∧ w'.cell? ⟨(ad327.add ((t313).toNat * 3)).block, (ad327.add ((t313).toNat * 3)).off + 2, none⟩ = some (.int .i64 ((rd_T66 x295000_1 t313).f2))) (ds := [8, 10]) #[false, false, false, false, false, false, false, false, false, false, false] (by kernel_rfl) rfl rfl ⟨ct BK294.out 0, hx327_0, hx327_1, hx327_2⟩ (fun hHeld => ?_); refine with_tabW spec_l03Disk.tab14 spec_l03Disk.bits14 (fun HT_ HW_ => ?_)
          generalize w66.drew = w67 at HO_295000 BK293 BK294 HI0 HK HB hx327_0 hx327_1 hx327_2 hHeld ⊢
          refine zpu 0 62 #[true, false, false, false, false, false, false, false, false, false, false] HT_ ?_
          refine zpu 2 64 #[true, false, true, false, false, false, false, false, false, false, false] HT_ ?_
          refine zpu 4 66 #[true, false, true, false, true, false, false, false, false, false, false] HT_ ?_
          refine ztk4 1 63 #[true, true, true, false, true, false, false, false, false, false, false] HT_ HW_ hHeld ?_
          refine ztk4 3 65 #[true, true, true, true, true, false, false, false, false, false, false] HT_ HW_ hHeld ?_
          refine zpu 5 67 #[true, true, true, true, true, true, false, false, false, false, false] HT_ ?_
          refine ztk4 6 68 #[true, true, true, true, true, true, true, false, false, false, false] HT_ HW_ hHeld ?_
          refine zon 7 #[true, true, true, true, true, true, true, true, false, false, false] HT_ (fun K hK => ?_)
          refine value_ (w1 := ?_) (v := ?_) (by rfl) rfl ?_ ?_
          rotate_left 2
          ·go_simp
           constructor
           ·rfl
           ·rfl
          refine hK.out _ _ ⟨(blk_cell (blk_alloc BK294.out _) 0).trans rfl, (World.cell?_alloc_lt _ _ _ (World.block_lt_of_cell? _ _ (hHeld.2.1))).trans (hHeld.2.1), (World.cell?_alloc_lt _ _ _ (World.block_lt_of_cell? _ _ (hHeld.2.2.1))).trans (hHeld.2.2.1), (World.cell?_alloc_lt _ _ _ (World.block_lt_of_cell? _ _ (hHeld.2.2.2))).trans (hHeld.2.2.2)⟩ (fun hHeld => ?_)
          clear hK K
          refine znm 69 ?_
          refine last_ (i := 8) (N := some 70) #[true, true, true, true, true, true, true, true, true, false, false] rfl rfl (one_of HT_.out (by kernel_rfl)) (by decide) (fun K hK => ?_)
          refine Kd.R_append_step k66 w.heap.size (by rfl) (.tmp 63) (.tmp 69) 29 66 (.agg #[(.string ⟨#[]⟩), (.string ⟨#[]⟩), (.int .i64 0)]) 40 rfl Try.underlying29 info66 rfl (by decide) (by omega) (.slice (some ad327) x295000_1.length co64) x295000_1 (⟨(rd_T66 x295000_1 t313).f0, (rd_T66 x295000_1 t313).f1, (rd_T66 x295000_1 t313).f2⟩ : S66) [.string ((rd_T66 x295000_1 t313).f0), .string ((rd_T66 x295000_1 t313).f1), .int .i64 ((rd_T66 x295000_1 t313).f2)] (fun _ => True) (fun _ => False) rfl rfl ?aP (fun _ hk => hk.elim) ?aF ?aO (Below.refl _ _) ?aS ?aL ?_
          (case aP => exact k66_mkM _ _ _ (⟨(rd_T66 x295000_1 t313).f0, (rd_T66 x295000_1 t313).f1, (rd_T66 x295000_1 t313).f2⟩ : S66))
          (case aF => exact (fun _ _ => trivial))
          (case aO => exact (rx HO_295000.out))
          (case aS => exact (keep_size (w := w) (g := g) (row := none) (zq2 HK GW293 GW294)))
          (case aL => have := LMc59.out; omega)
          intro v329 w68 ho hb hg hat
          rw [← Ny328.out] at ho
          have HO330 := am (ho)
          replace BK293 := am (blk_grown (g := gb293) (o := .cells #[.slice none 0 0] 31 (0, 0)) (kx BK293.out) hg (Kd.R_ne HO_295000.out BK293.out (by decide)))
          replace BK294 := am (blk_grown (g := gb294) (o := .cells #[.slice (some ad327) x295000_1.length co64] 31 (0, 0)) (kx BK294.out) hg (Kd.R_ne HO_295000.out BK294.out (by decide)))
          replace HB := am (below_weaken ((zb3 HB.out (IsS93.ge HI0.out) GE293.out GE294.out)) HL.out hb)
          replace HI0 := am (IsS93.grown (i93_2 HI0 NB0_293 NB0_294) hg (IsS93.own_ne HI0.out HO_295000.out (by decide)))
          replace HK := am (KeepBut.trans (zq2 HK GW293 GW294) (KeepBut.of_grown hg g) (Kd.R_base2 HO_295000.out))
          clear HO_295000 ho hb hg hat
          obtain ⟨Ao69, co69, eo69⟩ := Kd.R_slice HO330.out
          (first | subst eo69 | (injection eo69 with f1_ f2_ f3_; have f4_ := f1_.symm; have f5_ := f3_.symm; clear f1_ f2_ f3_; subst f4_; subst f5_))
          refine hK.out _ _ ?_
          clear hK K
          refine znm 70 ?_
          refine zpu 9 71 #[true, true, true, true, true, true, true, true, true, true, false] HT_ ?_
          refine last_ (i := 10) (N := none) #[true, true, true, true, true, true, true, true, true, true, true] rfl rfl (one_of HT_.out (by kernel_rfl)) (by decide) (fun K hK => ?_)
          have hs70 : w68.cell? ⟨gb294, 0, none⟩ = some (.slice (some ad327) x295000_1.length co64) := ct BK294.out 0
          have hfs70 := blk_frozen BK294.out 0
          have hns70_0 := NB293_294.out
          have hms70_0 := NB294_293.out
          refine skip_ (w1 := ?_) (by rfl) rfl ?_ ?_
          rotate_left
          ·go_simp
           rfl
          refine hK.out _ _ ?_
          clear hK K
          refine zdn HT_ ?_
          obtain ⟨hcz71_0, hfz71_0⟩ := zc1 BK294.out
          obtain ⟨hnb72, hnc72⟩ := zn2 NB293_0
          obtain ⟨hcz73_0, hfz73_0⟩ := zc1 BK293.out
          try go_wp2
          refine bodyPost_ret (results_cell_row rfl _ _ gb293 31 #[.slice Ao69 y328.length co69] (0, 0) _ rfl (zp1 BK293.out NB293_294.out) Try.underlying31 rfl (by kernel_rfl)) rfl ?_
          exact ⟨_, by first | rfl | (simp [errW_none, errW_some] <;> rfl) | (simp [*, errW_none, errW_some] <;> rfl), rx (Kd.R_mono (Kd.R_far (p := ⟨gb293, 0, none⟩) (Kd.R_far (p := ⟨gb294, 0, none⟩) (Kd.R_types (Kd.R_types HO330.out BK294.out (by decide)) BK293.out (by decide)) (fun _ hk => hk.1.2) (.slice Ao69 y328.length co69)) (fun _ hk => hk.2) (.slice Ao69 y328.length co69)) (fun _ hk => trivial)), (i93_2 HI0 NB0_293 NB0_294), (zb3 HB.out (IsS93.ge HI0.out) GE293.out GE294.out), (zq2 HK GW293 GW294)⟩
         ·rw [if_neg c59] at H
          exact absurd H (by simp)
        ·rw [if_neg c58] at H
         exact absurd H (by simp)
       ·rw [if_neg c57] at H
        exact absurd H (by simp)
      ·rw [if_neg c56] at H
       have c56b0 : (t316 == 1) = false := beq_eq_false_iff_ne.mpr c56
       have c56b1 : (t316 != 1) = true := bne_iff_ne.mpr c56
       by_cases c74 : t316 = 2
       ·rw [if_pos c74] at H
        have c74b0 : (t316 == 2) = true := beq_iff_eq.mpr c74
        have c74b1 : (t316 != 2) = false := bne_eq_false_iff_eq.mpr c74
        clear c74
        obtain ⟨y331, hy331⟩ : ∃ y_ : List ByteArray, y_ = (([(⟨#[]⟩ : ByteArray), (⟨#[49, 50, 51, 52, 53, 54, 55, 56]⟩ : ByteArray), (⟨#[49, 50, 51, 52, 53, 54, 55, 56, 57]⟩ : ByteArray)] : List ByteArray)) := ⟨_, rfl⟩
        replace H : ((spec_l01Pick.f s0_0 t317 t318 y331).bind fun bt334 => (if 0 ≤ t313 then (if t313 < (x295000_1.length : Int) then (some ((x295000_1.set (t313 : Int).toNat (⟨bt334.1, (rd_T66 x295000_1 t313).f1, (rd_T66 x295000_1 t313).f2⟩ : S66)), bt334.2.1, bt334.2.2)) else (none)) else (none))) = some (r1, r2, r3) := by first | (rw [hy331]; with_reducible exact H) | (have H2_ := (Option.bind_some _ _).symm.trans H; rw [hy331]; with_reducible exact H2_) | (have H2_ := (Option.bind_some _ _).symm.trans H; with_reducible exact H2_) | with_reducible exact H | (rw [hy331]; exact H) | exact H
        have Ny331 := Aside0.mk hy331
        clear hy331
        replace H := Option.bind_eq_some_iff.mp H
        obtain ⟨⟨t334, t335, t336⟩, A750, H⟩ := H
        try dsimp only at H
        have A75 := Aside0.mk A750
        clear A750
        by_cases c76 : 0 ≤ t313
        ·rw [if_pos c76] at H
         have c76b0 : decide (0 ≤ t313) = true := decide_eq_true c76
         clear c76
         by_cases c77 : t313 < (x295000_1.length : Int)
         ·rw [if_pos c77] at H
          have c77b0 : decide (t313 < (x295000_1.length : Int)) = true := decide_eq_true c77
          have c77b1 : decide ((x295000_1.length : Int) ≤ t313) = false := decide_eq_false (by omega)
          clear c77
          obtain ⟨y337, hy337⟩ : ∃ y_ : List (S66), y_ = (x295000_1.set (t313 : Int).toNat (⟨t334, (rd_T66 x295000_1 t313).f1, (rd_T66 x295000_1 t313).f2⟩ : S66)) := ⟨_, rfl⟩
          replace H : (some (y337, t335, t336)) = some (r1, r2, r3) := by first | (rw [hy337]; with_reducible exact H) | (have H2_ := (Option.bind_some _ _).symm.trans H; rw [hy337]; with_reducible exact H2_) | (have H2_ := (Option.bind_some _ _).symm.trans H; with_reducible exact H2_) | with_reducible exact H | (rw [hy337]; exact H) | exact H
          have Ny337 := Aside0.mk hy337
          clear hy337
          simp only [Option.some.injEq, Prod.mk.injEq] at H
          obtain ⟨rfl, rfl, rfl⟩ := H
          try go_wp2_with (first | ((with_reducible refine gate_callee (f := 66) rfl ?_); refine goesL_ (some 11) rfl rfl Try.func66 (by kernel_rfl) rfl #[.pointer (some ⟨g, 0, none⟩), .int .i64 6] rfl zr ?_; (with_reducible refine (spec_l01Below.calls g s0_0 x1001_1 x1002_1 6 t295 t296 t297 w0 _ ?side1 ?side2 A7.out).mono ?_); (case side1 => exact i93_2 HI0 NB0_293 NB0_294); (case side2 => exact zb3 HB.out (IsS93.ge HI0.out) GE293.out GE294.out); rintro e w79 ⟨rfl, hi, hb, hk⟩; refine ⟨_, rfl, ?_⟩; replace HO_295000 := i93_r hk (show IsS93 w0 _ g s0_0 x1001_1 x1002_1 from (i93_2 HI0 NB0_293 NB0_294)) HO_295000; replace BK293 := zkb hk BK293 NB293_0; replace BK294 := zkb hk BK294 NB294_0; replace HK := zqt hk (zq2 HK GW293 GW294); replace HB := am (hb); replace HI0 := am (hi); clear hb hk hi; obtain ⟨hnb80, hnc80⟩ := zn2 NB294_293; obtain ⟨hnb81, hnc81⟩ := zn2 NB294_0; obtain ⟨hcz82_0, hfz82_0⟩ := zc1 BK294.out; obtain ⟨Ao83, co83, eo83⟩ := Kd.R_slice HO_295000.out; subst eo83) | ((with_reducible refine gate_callee (f := 66) rfl ?_); refine goesL_ (some 39) rfl rfl Try.func66 (by kernel_rfl) rfl #[.pointer (some ⟨g, 0, none⟩), .int .i64 (x295000_1.length : Int)] rfl zr ?_; (with_reducible refine (spec_l01Below.calls g s0_0 t296 t297 (x295000_1.length : Int) t313 t314 t315 w0 _ ?side1 ?side2 A32.out).mono ?_); (case side1 => exact i93_2 HI0 NB0_293 NB0_294); (case side2 => exact zb3 HB.out (IsS93.ge HI0.out) GE293.out GE294.out); rintro e w84 ⟨rfl, hi, hb, hk⟩; refine ⟨_, rfl, ?_⟩; replace HO_295000 := i93_r hk (show IsS93 w0 _ g s0_0 t296 t297 from (i93_2 HI0 NB0_293 NB0_294)) HO_295000; replace BK293 := zkb hk BK293 NB293_0; replace BK294 := zkb hk BK294 NB294_0; replace HK := zqt hk (zq2 HK GW293 GW294); replace HB := am (hb); replace HI0 := am (hi); clear hb hk hi) | ((with_reducible refine gate_callee (f := 66) rfl ?_); refine goesL_ (some 41) rfl rfl Try.func66 (by kernel_rfl) rfl #[.pointer (some ⟨g, 0, none⟩), .int .i64 40] rfl zr ?_; (with_reducible refine (spec_l01Below.calls g s0_0 t314 t315 40 t316 t317 t318 w0 _ ?side1 ?side2 A33.out).mono ?_); (case side1 => exact i93_2 HI0 NB0_293 NB0_294); (case side2 => exact zb3 HB.out (IsS93.ge HI0.out) GE293.out GE294.out); rintro e w85 ⟨rfl, hi, hb, hk⟩; refine ⟨_, rfl, ?_⟩; replace HO_295000 := i93_r hk (show IsS93 w0 _ g s0_0 t314 t315 from (i93_2 HI0 NB0_293 NB0_294)) HO_295000; replace BK293 := zkb hk BK293 NB293_0; replace BK294 := zkb hk BK294 NB294_0; replace HK := zqt hk (zq2 HK GW293 GW294); replace HB := am (hb); replace HI0 := am (hi); clear hb hk hi))
          replace HO_295000 := am (Kd.R_drew HO_295000.out)
          replace BK293 := zw BK293
          replace BK294 := zw BK294
          replace HI0 := am (IsS93.drew HI0.out)
          replace HK := am (keep_drew HK.out)
          replace HB := am (below_drew1 HB.out)
          refine start_ (n := 9) (S := fun w' => w'.cell? ⟨gb294, 0, none⟩ = some (.slice Ao83 x295000_1.length co83)) (ds := [8]) #[false, false, false, false, false, false, false, false, false] (by kernel_rfl) rfl rfl (ct BK294.out 0) (fun hHeld => ?_); refine with_tabW spec_l03Disk.tab16 spec_l03Disk.bits16 (fun HT_ HW_ => ?_)
          generalize w85.drew = w86 at HO_295000 BK293 BK294 HI0 HK HB hHeld ⊢
          refine zpu 0 74 #[true, false, false, false, false, false, false, false, false] HT_ ?_
          refine zpu 2 76 #[true, false, true, false, false, false, false, false, false] HT_ ?_
          refine zpu 3 77 #[true, false, true, true, false, false, false, false, false] HT_ ?_
          refine ztk1 1 75 #[true, true, true, true, false, false, false, false, false] HT_ HW_ hHeld ?_
          refine zon 4 #[true, true, true, true, true, false, false, false, false] HT_ (fun K hK => ?_)
          refine Kd.R_lit_step Kd.string _ 9 ?hg (N := 78) ?hd (xs := ([(⟨#[]⟩ : ByteArray), (⟨#[49, 50, 51, 52, 53, 54, 55, 56]⟩ : ByteArray), (⟨#[49, 50, 51, 52, 53, 54, 55, 56, 57]⟩ : ByteArray)] : List ByteArray)) (inner := [.string (⟨#[]⟩ : ByteArray), .string (⟨#[49, 50, 51, 52, 53, 54, 55, 56]⟩ : ByteArray), .string (⟨#[49, 50, 51, 52, 53, 54, 55, 56, 57]⟩ : ByteArray)]) (ok := fun _ => True) (okp := fun _ => True) ?hr ?hp (fun _ hk => hk) trivial (Below.refl _ _) (Nat.le_refl _) (by simp) ?_; (case hd => rfl); (case hg => rfl); (case hr => first | (go_simp; done) | (go_simp; rfl)); (case hp => exact (Reps.one (show Kd.M Kd.string _ _ _ (⟨#[]⟩ : ByteArray) [.string (⟨#[]⟩ : ByteArray)] from rfl) (Reps.one (show Kd.M Kd.string _ _ _ (⟨#[49, 50, 51, 52, 53, 54, 55, 56]⟩ : ByteArray) [.string (⟨#[49, 50, 51, 52, 53, 54, 55, 56]⟩ : ByteArray)] from rfl) (Reps.one (show Kd.M Kd.string _ _ _ (⟨#[49, 50, 51, 52, 53, 54, 55, 56, 57]⟩ : ByteArray) [.string (⟨#[49, 50, 51, 52, 53, 54, 55, 56, 57]⟩ : ByteArray)] from rfl) (Reps.none _ _)))))
          intro v332 w87 ho88 hb hg_ hnew_
          clear hg_ hnew_
          (first | rw [← Ny331.out] at ho88 | (simp only [Int.reduceToNat] at ho88; rw [← Ny331.out] at ho88))
          have HO333 := am (Kd.R_lower ho88 (keep_size (w := w) (g := g) (row := none) (zq2 HK GW293 GW294)))
          replace HO_295000 := zo hb HO_295000
          replace BK293 := zk hb BK293
          replace BK294 := zk hb BK294
          replace HK := am (KeepBut.trans (zq2 HK GW293 GW294) (KeepBut.of_below hb g none) (.inl rfl))
          replace HB := am (below_step ((zb3 HB.out (IsS93.ge HI0.out) GE293.out GE294.out)) hb)
          replace HI0 := am (IsS93.below (i93_2 HI0 NB0_293 NB0_294) hb)
          clear hb ho88
          obtain ⟨Ao89, co89, eo89⟩ := Kd.R_slice HO333.out
          (first | subst eo89 | (injection eo89 with f1_ f2_ f3_; have f4_ := f1_.symm; have f5_ := f3_.symm; clear f1_ f2_ f3_; subst f4_; subst f5_))
          refine hK.out _ _ (ct BK294.out 0) (fun hHeld => ?_)
          clear hK K
          refine znm 78 ?_
          refine zon 5 #[true, true, true, true, true, true, false, false, false] HT_ (fun K hK => ?_)
          refine goes_ Try.func70 (by kernel_rfl) rfl #[.pointer (some ⟨g, 0, none⟩), .slice Ao89 y331.length co89] (by rfl) rfl rfl zr ?_
          with_reducible refine (spec_l01Pick.calls g s0_0 t317 t318 _ _ y331 t334 t335 t336 w0 _ ?side1 ?side2 ?side3 ?side4 ?side5 A75.out).mono ?_
          (case side1 => exact i93_2 HI0 NB0_293 NB0_294)
          (case side2 => exact zb3 HB.out (IsS93.ge HI0.out) GE293.out GE294.out)
          (case side3 => repeat (first | exact (Kd.R_reads' HO333.out).2.2 | (with_reducible refine Kd.C_alloc ?_ _) | (with_reducible refine Kd.C_drewN ?_ _) | (with_reducible refine Kd.C_drew ?_)))
          (case side4 => exact (Kd.R_reads' HO333.out).2.1)
          (case side5 => exact far_slice (IsS93.own_ne HI0.out HO333.out (by decide)))
          rintro e w90 ⟨rfl, hi, hb, hk⟩
          refine ⟨_, rfl, ?_⟩
          replace HO_295000 := i93_r hk (show IsS93 w0 _ g s0_0 t317 t318 from (i93_2 HI0 NB0_293 NB0_294)) HO_295000
          replace BK293 := zkb hk BK293 NB293_0
          replace BK294 := zkb hk BK294 NB294_0
          replace HO333 := i93_r hk (show IsS93 w0 _ g s0_0 t317 t318 from (i93_2 HI0 NB0_293 NB0_294)) HO333
          replace HK := zqt hk (zq2 HK GW293 GW294)
          replace HB := am (hb)
          replace HI0 := am (hi)
          have p78 : 0 ≤ (t313 : Int) := zpq
          have q78 : (t313 : Int) < ((x295000_1.length : Int) : Int) := zpq
          obtain ⟨go78, co78, eo78, gb78, gl78, cl78, HG78⟩ := Kd.R_form HO_295000.out (by omega)
          (first | cases eo78 | (injection eo78 with ea_ en_ ec_; (first | subst ea_ | (injection ea_ with ea_; subst ea_)); subst ec_; clear en_))
          have GB78 := Aside0.mk gb78
          have GG78 := Aside0.mk HG78
          clear gb78 gl78 HG78
          obtain ⟨ce78, hcl78, hM78, hcc78, hfr78⟩ := Kd.R_elem HO_295000.out z66 (t313 : Int) p78 q78
          obtain rfl := k66_openM hM78
          have hx78_0 : World.cell? _ ⟨go78, (t313 : Int).toNat * 3, none⟩ = some (.string ((rd_T66 x295000_1 t313).f0)) := hcc78 0 _ rfl
          have hx78_1 : World.cell? _ ⟨go78, (t313 : Int).toNat * 3 + 1, none⟩ = some (.string ((rd_T66 x295000_1 t313).f1)) := hcc78 1 _ rfl
          have hx78_2 : World.cell? _ ⟨go78, (t313 : Int).toNat * 3 + 2, none⟩ = some (.int .i64 ((rd_T66 x295000_1 t313).f2)) := hcc78 2 _ rfl
          have hf78_0 : World.frozen? _ ⟨go78, (t313 : Int).toNat * 3, none⟩ = false := hfr78 0
          have hf78_1 : World.frozen? _ ⟨go78, (t313 : Int).toNat * 3 + 1, none⟩ = false := hfr78 1
          have hf78_2 : World.frozen? _ ⟨go78, (t313 : Int).toNat * 3 + 2, none⟩ = false := hfr78 2
          clear hcl78 hcc78 hfr78 hM78
          replace p78 := eq_true p78
          replace q78 := eq_true q78
          have HN0_go78 := Aside0.mk (show g ≠ go78 from by have h_ := IsS93.own_ne HI0.out HO_295000.out (by decide); intro e_; exact h_ (by rw [e_]; rfl))
          obtain ⟨ce91, hcl91, hM91, hcc91, hfr91⟩ := Kd.R_elem HO_295000.out z66 (t313 : Int) (of_decide_eq_true (by first | (with_reducible assumption) | assumption)) (by have h_ : (t313 : Int) < ((x295000_1.length : Int) : Int) := of_decide_eq_true (by first | (with_reducible assumption) | assumption); first | exact h_ | (have e_ := (Kd.R_reads' HO_295000.out).1; omega) | simpa using h_)
          obtain rfl := k66_openM hM91
          have HP91 := (Kd.R_seg HO_295000.out (t313 : Int) (of_decide_eq_true (by first | (with_reducible assumption) | assumption)) (by have h_ : (t313 : Int) < ((x295000_1.length : Int) : Int) := of_decide_eq_true (by first | (with_reducible assumption) | assumption); first | exact h_ | (have e_ := (Kd.R_reads' HO_295000.out).1; omega) | simpa using h_) (seg := [.string t334]) (j := 0) hcl91 hcc91 (show 1 ≤ 3 from by decide) (x' := (⟨t334, (rd_T66 x295000_1 t313).f1, (rd_T66 x295000_1 t313).f2⟩ : S66)) (k66_mkM _ _ _ (⟨t334, (rd_T66 x295000_1 t313).f1, (rd_T66 x295000_1 t313).f2⟩ : S66) ) (fun _ hk => hk)).1
          rw [← Ny337.out] at HP91
          have HQ91 := Aside0.mk HP91
          clear hcl91 hcc91 hfr91 hM91 HP91
          refine hK.out _ _ (ct BK294.out 0) (fun hHeld => ?_)
          clear hK K
          refine znm 79 ?_
          refine zpu 6 80 #[true, true, true, true, true, true, true, false, false] HT_ ?_
          refine zpu 7 81 #[true, true, true, true, true, true, true, true, false] HT_ ?_
          refine last_ (i := 8) (N := none) #[true, true, true, true, true, true, true, true, true] rfl rfl (one_of HT_.out (by kernel_rfl)) (by decide) (fun K hK => ?_)
          refine skip_ (w1 := ?_) (by rfl) rfl ?_ ?_
          rotate_left
          ·go_simp
           rfl
          refine hK.out _ _ ?_
          clear hK K
          refine zdn HT_ ?_
          have n0_ : Aside0 (Kd.R k66 66 (w90.setCell ⟨go78, (t313 : Int).toNat * 3, none⟩ (.string t334)) w.heap.size (fun _ => True) (.slice (some ⟨go78, 0, none⟩) x295000_1.length co83) y337) := ⟨rx HQ91.out⟩
          have n1_ : Aside0 (Kd.R Kd.string 9 (w90.setCell ⟨go78, (t313 : Int).toNat * 3, none⟩ (.string t334)) w.heap.size (fun _ => True) (.slice Ao89 y331.length co89) y331) := ⟨rx (Kd.R_mono (Kd.R_far (p := ⟨go78, (t313 : Int).toNat * 3, none⟩) (Kd.R_types HO333.out GG78.out (by decide)) (fun _ hk => hk.2) (.string t334)) (fun _ hk => trivial))⟩
          have n2_ : Aside0 ((w90.setCell ⟨go78, (t313 : Int).toNat * 3, none⟩ (.string t334)).heap[gb293]? = some (.cells #[.slice none 0 0] 31 (0, 0))) := ⟨by (with_reducible repeat (first | refine blk_drewN ?_ _ | refine blk_drew ?_ | refine blk_alloc ?_ _)); refine blk_far ?_ (by have h_ := Kd.R_ne HO_295000.out BK293.out (by decide); intro e_; exact h_ (by rw [e_]; rfl)) _; (with_reducible repeat (first | refine blk_drewN ?_ _ | refine blk_drew ?_ | refine blk_alloc ?_ _)); exact BK293.out⟩
          have n3_ : Aside0 ((w90.setCell ⟨go78, (t313 : Int).toNat * 3, none⟩ (.string t334)).heap[gb294]? = some (.cells #[.slice (some ⟨go78, 0, none⟩) x295000_1.length co83] 31 (0, 0))) := ⟨by (with_reducible repeat (first | refine blk_drewN ?_ _ | refine blk_drew ?_ | refine blk_alloc ?_ _)); refine blk_far ?_ (by have h_ := Kd.R_ne HO_295000.out BK294.out (by decide); intro e_; exact h_ (by rw [e_]; rfl)) _; (with_reducible repeat (first | refine blk_drewN ?_ _ | refine blk_drew ?_ | refine blk_alloc ?_ _)); exact BK294.out⟩
          have n4_ : Aside0 (IsS93 w0 (w90.setCell ⟨go78, (t313 : Int).toNat * 3, none⟩ (.string t334)) g s0_0 t335 t336) := ⟨(i93_3 HI0 HN0_go78 NB0_293 NB0_294)⟩
          have n5_ : Aside0 (KeepBut w (w90.setCell ⟨go78, (t313 : Int).toNat * 3, none⟩ (.string t334)) g none) := ⟨(zq3 HK GB78 GW293 GW294)⟩
          have n6_ : Aside0 (Below w0.heap.size w0 (w90.setCell ⟨go78, (t313 : Int).toNat * 3, none⟩ (.string t334))) := ⟨by repeat (first | (with_reducible first | exact HB.out | apply below_alloc | apply pw_below_drewN | apply below_drew1 | refine below_set ?_ (Nat.le_trans HL.out GB78.out) | refine below_set ?_ (IsS93.ge HI0.out) | refine below_set ?_ GE293.out | refine below_set ?_ GE294.out) | exact HB.out)⟩
          generalize (w90.setCell ⟨go78, (t313 : Int).toNat * 3, none⟩ (.string t334)) = w92 at n0_ n1_ n2_ n3_ n4_ n5_ n6_ ⊢
          have HO_295000 := n0_
          have HO333 := n1_
          have BK293 := n2_
          have BK294 := n3_
          have HI0 := n4_
          have HK := n5_
          have HB := n6_
          clear n0_ n1_ n2_ n3_ n4_ n5_ n6_
          obtain ⟨hcz93_0, hfz93_0⟩ := zc1 BK294.out
          obtain ⟨hnb94, hnc94⟩ := zn2 NB293_0
          obtain ⟨hcz95_0, hfz95_0⟩ := zc1 BK293.out
          try go_wp2
          refine bodyPost_ret (results_cell_row rfl _ _ gb293 31 #[.slice (some ⟨go78, 0, none⟩) x295000_1.length co83] (0, 0) _ rfl (zp0 BK293.out) Try.underlying31 rfl (by kernel_rfl)) rfl ?_
          exact ⟨_, by first | rfl | (simp [errW_none, errW_some] <;> rfl) | (simp [*, errW_none, errW_some] <;> rfl), rx (Kd.R_mono (Kd.R_far (p := ⟨gb293, 0, none⟩) (Kd.R_types HO_295000.out BK293.out (by decide)) (fun _ hk => hk.2) (.slice (some ⟨go78, 0, none⟩) x295000_1.length co83)) (fun _ hk => trivial)), (i93_2 HI0 NB0_293 NB0_294), (zb3 HB.out (IsS93.ge HI0.out) GE293.out GE294.out), (zq2 HK GW293 GW294)⟩
         ·rw [if_neg c77] at H
          exact absurd H (by simp)
        ·rw [if_neg c76] at H
         exact absurd H (by simp)
       ·rw [if_neg c74] at H
        have c74b0 : (t316 == 2) = false := beq_eq_false_iff_ne.mpr c74
        have c74b1 : (t316 != 2) = true := bne_iff_ne.mpr c74
        by_cases c96 : t316 = 3
        ·rw [if_pos c96] at H
         have c96b0 : (t316 == 3) = true := beq_iff_eq.mpr c96
         have c96b1 : (t316 != 3) = false := bne_eq_false_iff_eq.mpr c96
         clear c96
         obtain ⟨y338, hy338⟩ : ∃ y_ : List (S66), y_ = (([] : List (S66))) := ⟨_, rfl⟩
         replace H : (spec_l03Disk.l1 k1 0 s0_0 t317 t318 y338) = some (r1, r2, r3) := by first | (rw [hy338]; with_reducible exact H) | (have H2_ := (Option.bind_some _ _).symm.trans H; rw [hy338]; with_reducible exact H2_) | (have H2_ := (Option.bind_some _ _).symm.trans H; with_reducible exact H2_) | with_reducible exact H | (rw [hy338]; exact H) | exact H
         have Ny338 := Aside0.mk hy338
         clear hy338
         have H' := Aside0.mk H
         clear H
         go_wp2_with (first | ((with_reducible refine gate_callee (f := 66) rfl ?_); refine goesL_ (some 11) rfl rfl Try.func66 (by kernel_rfl) rfl #[.pointer (some ⟨g, 0, none⟩), .int .i64 6] rfl zr ?_; (with_reducible refine (spec_l01Below.calls g s0_0 x1001_1 x1002_1 6 t295 t296 t297 w0 _ ?side1 ?side2 A7.out).mono ?_); (case side1 => exact i93_2 HI0 NB0_293 NB0_294); (case side2 => exact zb3 HB.out (IsS93.ge HI0.out) GE293.out GE294.out); rintro e w97 ⟨rfl, hi, hb, hk⟩; refine ⟨_, rfl, ?_⟩; replace HO_295000 := i93_r hk (show IsS93 w0 _ g s0_0 x1001_1 x1002_1 from (i93_2 HI0 NB0_293 NB0_294)) HO_295000; replace BK293 := zkb hk BK293 NB293_0; replace BK294 := zkb hk BK294 NB294_0; replace HK := zqt hk (zq2 HK GW293 GW294); replace HB := am (hb); replace HI0 := am (hi); clear hb hk hi; obtain ⟨hnb98, hnc98⟩ := zn2 NB294_293; obtain ⟨hnb99, hnc99⟩ := zn2 NB294_0; obtain ⟨hcz100_0, hfz100_0⟩ := zc1 BK294.out; obtain ⟨Ao101, co101, eo101⟩ := Kd.R_slice HO_295000.out; subst eo101) | ((with_reducible refine gate_callee (f := 66) rfl ?_); refine goesL_ (some 39) rfl rfl Try.func66 (by kernel_rfl) rfl #[.pointer (some ⟨g, 0, none⟩), .int .i64 (x295000_1.length : Int)] rfl zr ?_; (with_reducible refine (spec_l01Below.calls g s0_0 t296 t297 (x295000_1.length : Int) t313 t314 t315 w0 _ ?side1 ?side2 A32.out).mono ?_); (case side1 => exact i93_2 HI0 NB0_293 NB0_294); (case side2 => exact zb3 HB.out (IsS93.ge HI0.out) GE293.out GE294.out); rintro e w102 ⟨rfl, hi, hb, hk⟩; refine ⟨_, rfl, ?_⟩; replace HO_295000 := i93_r hk (show IsS93 w0 _ g s0_0 t296 t297 from (i93_2 HI0 NB0_293 NB0_294)) HO_295000; replace BK293 := zkb hk BK293 NB293_0; replace BK294 := zkb hk BK294 NB294_0; replace HK := zqt hk (zq2 HK GW293 GW294); replace HB := am (hb); replace HI0 := am (hi); clear hb hk hi) | ((with_reducible refine gate_callee (f := 66) rfl ?_); refine goesL_ (some 41) rfl rfl Try.func66 (by kernel_rfl) rfl #[.pointer (some ⟨g, 0, none⟩), .int .i64 40] rfl zr ?_; (with_reducible refine (spec_l01Below.calls g s0_0 t314 t315 40 t316 t317 t318 w0 _ ?side1 ?side2 A33.out).mono ?_); (case side1 => exact i93_2 HI0 NB0_293 NB0_294); (case side2 => exact zb3 HB.out (IsS93.ge HI0.out) GE293.out GE294.out); rintro e w103 ⟨rfl, hi, hb, hk⟩; refine ⟨_, rfl, ?_⟩; replace HO_295000 := i93_r hk (show IsS93 w0 _ g s0_0 t314 t315 from (i93_2 HI0 NB0_293 NB0_294)) HO_295000; replace BK293 := zkb hk BK293 NB293_0; replace BK294 := zkb hk BK294 NB294_0; replace HK := zqt hk (zq2 HK GW293 GW294); replace HB := am (hb); replace HI0 := am (hi); clear hb hk hi) | ((with_reducible refine gate_dst (N := 84) rfl ?_); refine Kd.R_lit k66 _ 66 ?hg (N := 84) ?hd (xs := ([] : List (S66))) (inner := []) (ok := fun _ => True) (okp := fun _ => True) ?hr ?hp (fun _ hk => hk) trivial (Below.refl _ _) (Nat.le_refl _) (by simp) ?_; (case hd => rfl); (case hg => rfl); (case hr => first | (go_simp; done) | (go_simp; rfl)); (case hp => exact (Reps.none _ _)); intro v339 w104 ho105 hb hg_ hnew_; clear hg_ hnew_; (first | rw [← Ny338.out] at ho105 | (simp only [Int.reduceToNat] at ho105; rw [← Ny338.out] at ho105)); have HO340 := am (Kd.R_lower (Kd.R_new' ho105 (Kd.R_lt (rx HO_295000.out))) (keep_size (w := w) (g := g) (row := none) (zq2 HK GW293 GW294))); replace HO_295000 := am (Kd.R_elder' (rx HO_295000.out) (Kd.R_base ho105) hb); replace BK293 := zk hb BK293; replace BK294 := zk hb BK294; replace HK := am (KeepBut.trans (zq2 HK GW293 GW294) (KeepBut.of_below hb g none) (.inl rfl)); replace HB := am (below_step ((zb3 HB.out (IsS93.ge HI0.out) GE293.out GE294.out)) hb); replace HI0 := am (IsS93.below (i93_2 HI0 NB0_293 NB0_294) hb); clear hb ho105; obtain ⟨Ao106, co106, eo106⟩ := Kd.R_slice HO340.out; subst eo106; obtain ⟨hcz107_0, hfz107_0⟩ := zc1 BK294.out))
         go_loopg [7] k1 (fun kq v7 w' => ∃ (x7_2 : Int) (x1001_2 : Int) (x1002_2 : Int) (x295000_2 : List (S66)) (u295000 : Value), v7 = .int .i64 x7_2 ∧ Aside0 (spec_l03Disk.l1 kq x7_2 s0_0 x1001_2 x1002_2 x295000_2 = some (r1, r2, r3)) ∧ Aside0 (kq ≤ k1) ∧ Aside0 (Kd.R k66 66 w' w.heap.size (fun _ => True) u295000 x295000_2) ∧ Aside0 (w'.heap[gb293]? = some (.cells #[(.slice none 0 0)] 31 (0, 0))) ∧ Aside0 (w'.heap[gb294]? = some (.cells #[u295000] 31 (0, 0))) ∧ Aside0 (IsS93 w0 w' g s0_0 x1001_2 x1002_2) ∧ Aside0 (KeepBut w w' g none) ∧ Aside0 (Below w0.heap.size w0 w'))
         case atStart => exact ⟨(0), (t317), (t318), (y338), (.slice Ao106 y338.length co106), (by first | rfl | (simp; done) | (simp [*]; done)), H', ⟨Nat.le_refl _⟩, ⟨rx (Kd.R_mono (Kd.R_far (p := ⟨gb294, 0, none⟩) (Kd.R_types HO340.out BK294.out (by decide)) (fun _ hk => hk.2) (.slice Ao106 y338.length co106)) (fun _ hk => trivial))⟩, ⟨zf1 BK293.out NB293_294.out⟩, ⟨by (with_reducible repeat (first | refine blk_drewN ?_ _ | refine blk_drew ?_ | refine blk_alloc ?_ _)); refine blk_put (cs := #[.slice Ao101 x295000_1.length co101]) ?_ 0 _ rfl; (with_reducible repeat (first | refine blk_drewN ?_ _ | refine blk_drew ?_ | refine blk_alloc ?_ _)); exact BK294.out⟩, ⟨(i93_2 HI0 NB0_293 NB0_294)⟩, ⟨(zq2 HK GW293 GW294)⟩, ⟨(zb3 HB.out (IsS93.ge HI0.out) GE293.out GE294.out)⟩⟩
         case round =>
          clear H'
          obtain ⟨x7_2, x1001_2, x1002_2, x295000_2, u295000, rfl, HA, HK2, HO_295000, BK293, BK294, HI0, HK, HB⟩ := hrel
          cases gk with
          | zero => exact absurd HA.out (by simp [spec_l03Disk.l1])
          | succ k2 =>
           have H := HA.out
           clear HA
           simp only [spec_l03Disk.l1] at H
           replace H := Option.bind_eq_some_iff.mp H
           obtain ⟨⟨t341, t342, t343⟩, A1080, H⟩ := H
           try dsimp only at H
           have A108 := Aside0.mk A1080
           clear A1080
           by_cases c109 : x7_2 < (wrap64 (30 + t341))
           ·rw [if_pos c109] at H
            have c109b0 : decide (x7_2 < (wrap64 (30 + t341))) = true := decide_eq_true c109
            have c109b1 : decide ((wrap64 (30 + t341)) ≤ x7_2) = false := decide_eq_false (by omega)
            clear c109
            replace H := Option.bind_eq_some_iff.mp H
            obtain ⟨t344, A1100, H⟩ := H
            try dsimp only at H
            have A110 := Aside0.mk A1100
            clear A1100
            by_cases c111 : 1 + t344.size ≤ 9223372036854775807
            ·rw [if_pos c111] at H
             have c111b0 := eq_true c111
             have c111b1 : decide (1 + t344.size ≤ 9223372036854775807) = true := decide_eq_true c111
             try have c111b2 : (9223372036854775807 < 1 + t344.size) = False := eq_false (Nat.not_lt.2 c111)
             by_cases c112 : x295000_2.length < 3518437208883
             ·rw [if_pos c112] at H
              have LMc112 := Aside0.mk c112
              clear c112
              obtain ⟨y345, hy345⟩ : ∃ y_ : List (S66), y_ = (x295000_2 ++ [(⟨(⟨#[102]⟩ : ByteArray) ++ t344, (⟨#[]⟩ : ByteArray), 0⟩ : S66)]) := ⟨_, rfl⟩
              replace H : (spec_l03Disk.l1 k2 (wrap64 (x7_2 + 1)) s0_0 t342 t343 y345) = some (r1, r2, r3) := by first | (rw [hy345]; with_reducible exact H) | (have H2_ := (Option.bind_some _ _).symm.trans H; rw [hy345]; with_reducible exact H2_) | (have H2_ := (Option.bind_some _ _).symm.trans H; with_reducible exact H2_) | with_reducible exact H | (rw [hy345]; exact H) | exact H
              have Ny345 := Aside0.mk hy345
              clear hy345
              have H' := Aside0.mk H
              clear H
              try go_wp2_with (first | ((with_reducible refine gate_callee (f := 66) rfl ?_); refine goesL_ (some 88) rfl rfl Try.func66 (by kernel_rfl) rfl #[.pointer (some ⟨g, 0, none⟩), .int .i64 2] rfl zr ?_; (with_reducible refine (spec_l01Below.calls g s0_0 x1001_2 x1002_2 2 t341 t342 t343 w0 _ ?side1 ?side2 A108.out).mono ?_); (case side1 => exact i93_2 HI0 NB0_293 NB0_294); (case side2 => exact zb3 HB.out (IsS93.ge HI0.out) GE293.out GE294.out); rintro e w113 ⟨rfl, hi, hb, hk⟩; refine ⟨_, rfl, ?_⟩; replace HO_295000 := i93_r hk (show IsS93 w0 _ g s0_0 x1001_2 x1002_2 from (i93_2 HI0 NB0_293 NB0_294)) HO_295000; replace BK293 := zkb hk BK293 NB293_0; replace BK294 := zkb hk BK294 NB294_0; replace HK := zqt hk (zq2 HK GW293 GW294); replace HB := am (hb); replace HI0 := am (hi); clear hb hk hi))
              replace HO_295000 := am (Kd.R_drew HO_295000.out)
              replace BK293 := zw BK293
              replace BK294 := zw BK294
              replace HI0 := am (IsS93.drew HI0.out)
              replace HK := am (keep_drew HK.out)
              replace HB := am (below_drew1 HB.out)
              refine start_ (n := 11) (S := fun w' => w'.cell? ⟨gb294, 0, none⟩ = some (u295000)) (ds := [10]) #[false, false, false, false, false, false, false, false, false, false, false] (by kernel_rfl) rfl rfl (ct BK294.out 0) (fun hHeld => ?_); refine with_tabW spec_l03Disk.tab22 spec_l03Disk.bits22 (fun HT_ HW_ => ?_)
              generalize w113.drew = w114 at HO_295000 BK293 BK294 HI0 HK HB hHeld ⊢
              refine zpu 0 93 #[true, false, false, false, false, false, false, false, false, false, false] HT_ ?_
              refine zpu 2 95 #[true, false, true, false, false, false, false, false, false, false, false] HT_ ?_
              refine zpu 3 96 #[true, false, true, true, false, false, false, false, false, false, false] HT_ ?_
              refine ztk1 1 94 #[true, true, true, true, false, false, false, false, false, false, false] HT_ HW_ hHeld ?_
              refine zon 4 #[true, true, true, true, true, false, false, false, false, false, false] HT_ (fun K hK => ?_)
              refine goes_ Try.func71 (by kernel_rfl) rfl #[.int .i64 (wrap64 (100 + x7_2))] (by rfl) rfl rfl zr ?_
              with_reducible refine (spec_Decimal.calls k2 (wrap64 (100 + x7_2)) t344 _ A110.out).mono ?_
              rintro e w115 ⟨rfl, hb⟩
              refine ⟨_, rfl, ?_⟩
              replace HO_295000 := zo hb HO_295000
              replace BK293 := zk hb BK293
              replace BK294 := zk hb BK294
              replace HK := am (KeepBut.trans (zq2 HK GW293 GW294) (KeepBut.of_below hb g none) (.inl rfl))
              replace HB := am (below_step ((zb3 HB.out (IsS93.ge HI0.out) GE293.out GE294.out)) hb)
              replace HI0 := am (IsS93.below (i93_2 HI0 NB0_293 NB0_294) hb)
              refine hK.out _ _ (ct BK294.out 0) (fun hHeld => ?_)
              clear hK K
              refine znm 97 ?_
              refine zpu 5 98 #[true, true, true, true, true, true, false, false, false, false, false] HT_ ?_
              refine zpu 6 99 #[true, true, true, true, true, true, true, false, false, false, false] HT_ ?_
              refine zon 7 #[true, true, true, true, true, true, true, true, false, false, false] HT_ (fun K hK => ?_)
              refine value_ (w1 := ?_) (v := ?_) (by rfl) rfl ?_ ?_
              rotate_left 2
              ·go_simp
               constructor
               ·rfl
               ·rfl
              refine hK.out _ _ ((blk_cell (blk_alloc BK294.out _) 0).trans rfl) (fun hHeld => ?_)
              clear hK K
              refine znm 100 ?_
              refine zon 8 #[true, true, true, true, true, true, true, true, true, false, false] HT_ (fun K hK => ?_)
              refine Kd.R_append_step k66 w.heap.size (by rfl) (.tmp 94) (.tmp 100) 29 66 (.agg #[(.string ⟨#[]⟩), (.string ⟨#[]⟩), (.int .i64 0)]) 40 rfl Try.underlying29 info66 rfl (by decide) (by omega) u295000 x295000_2 (⟨(⟨#[102]⟩ : ByteArray) ++ t344, (⟨#[]⟩ : ByteArray), 0⟩ : S66) [.string ((⟨#[102]⟩ : ByteArray) ++ t344), .string (⟨#[]⟩ : ByteArray), .int .i64 0] (fun _ => True) (fun _ => False) rfl rfl ?aP (fun _ hk => hk.elim) ?aF ?aO (Below.refl _ _) ?aS ?aL ?_
              (case aP => exact k66_mkM _ _ _ (⟨(⟨#[102]⟩ : ByteArray) ++ t344, (⟨#[]⟩ : ByteArray), 0⟩ : S66))
              (case aF => exact (fun _ _ => trivial))
              (case aO => exact (rx HO_295000.out))
              (case aS => exact (keep_size (w := w) (g := g) (row := none) (zq2 HK GW293 GW294)))
              (case aL => have := LMc112.out; omega)
              intro v346 w116 ho hb hg hat
              rw [← Ny345.out] at ho
              have HO347 := am (ho)
              replace BK293 := am (blk_grown (g := gb293) (o := .cells #[.slice none 0 0] 31 (0, 0)) (kx BK293.out) hg (Kd.R_ne HO_295000.out BK293.out (by decide)))
              replace BK294 := am (blk_grown (g := gb294) (o := .cells #[u295000] 31 (0, 0)) (kx BK294.out) hg (Kd.R_ne HO_295000.out BK294.out (by decide)))
              replace HB := am (below_weaken ((zb3 HB.out (IsS93.ge HI0.out) GE293.out GE294.out)) HL.out hb)
              replace HI0 := am (IsS93.grown (i93_2 HI0 NB0_293 NB0_294) hg (IsS93.own_ne HI0.out HO_295000.out (by decide)))
              replace HK := am (KeepBut.trans (zq2 HK GW293 GW294) (KeepBut.of_grown hg g) (Kd.R_base2 HO_295000.out))
              clear HO_295000 ho hb hg hat
              obtain ⟨Ao117, co117, eo117⟩ := Kd.R_slice HO347.out
              (first | subst eo117 | (injection eo117 with f1_ f2_ f3_; have f4_ := f1_.symm; have f5_ := f3_.symm; clear f1_ f2_ f3_; subst f4_; subst f5_))
              refine hK.out _ _ (ct BK294.out 0) (fun hHeld => ?_)
              clear hK K
              refine znm 101 ?_
              refine zpu 9 102 #[true, true, true, true, true, true, true, true, true, true, false] HT_ ?_
              refine last_ (i := 10) (N := none) #[true, true, true, true, true, true, true, true, true, true, true] rfl rfl (one_of HT_.out (by kernel_rfl)) (by decide) (fun K hK => ?_)
              have hs118 : w116.cell? ⟨gb294, 0, none⟩ = some (u295000) := ct BK294.out 0
              have hfs118 := blk_frozen BK294.out 0
              have hns118_0 := NB293_294.out
              have hms118_0 := NB294_293.out
              refine skip_ (w1 := ?_) (by rfl) rfl ?_ ?_
              rotate_left
              ·go_simp
               rfl
              refine hK.out _ _ ?_
              clear hK K
              refine zdn HT_ ?_
              try go_wp2
              go_roundg k2
              case measure => have := HK1.out; have := HK2.out; omega
              case rel => exact ⟨(wrap64 (x7_2 + 1)), (t342), (t343), (y345), (.slice Ao117 y345.length co117), (by first | rfl | (simp; done) | (simp [*]; done)), H', ⟨by have := HK1.out; have := HK2.out; omega⟩, ⟨rx (Kd.R_mono (Kd.R_far (p := ⟨gb294, 0, none⟩) (Kd.R_types HO347.out BK294.out (by decide)) (fun _ hk => hk.2) (.slice Ao117 y345.length co117)) (fun _ hk => trivial))⟩, ⟨zf1 BK293.out NB293_294.out⟩, ⟨by (with_reducible repeat (first | refine blk_drewN ?_ _ | refine blk_drew ?_ | refine blk_alloc ?_ _)); refine blk_put (cs := #[u295000]) ?_ 0 _ rfl; (with_reducible repeat (first | refine blk_drewN ?_ _ | refine blk_drew ?_ | refine blk_alloc ?_ _)); exact BK294.out⟩, ⟨(i93_2 HI0 NB0_293 NB0_294)⟩, ⟨(zq2 HK GW293 GW294)⟩, ⟨(zb3 HB.out (IsS93.ge HI0.out) GE293.out GE294.out)⟩⟩
             ·rw [if_neg c112] at H
              exact absurd H (by simp)
            ·rw [if_neg c111] at H
             exact absurd H (by simp)
           ·rw [if_neg c109] at H
            have c109b0 : decide (x7_2 < (wrap64 (30 + t341))) = false := decide_eq_false c109
            have c109b1 : decide ((wrap64 (30 + t341)) ≤ x7_2) = true := decide_eq_true (by omega)
            clear c109
            simp only [Option.some.injEq, Prod.mk.injEq] at H
            obtain ⟨rfl, rfl, rfl⟩ := H
            go_wp2_with (first | ((with_reducible refine gate_callee (f := 66) rfl ?_); refine goesL_ (some 88) rfl rfl Try.func66 (by kernel_rfl) rfl #[.pointer (some ⟨g, 0, none⟩), .int .i64 2] rfl zr ?_; (with_reducible refine (spec_l01Below.calls g s0_0 x1001_2 x1002_2 2 t341 t342 t343 w0 _ ?side1 ?side2 A108.out).mono ?_); (case side1 => exact i93_2 HI0 NB0_293 NB0_294); (case side2 => exact zb3 HB.out (IsS93.ge HI0.out) GE293.out GE294.out); rintro e w119 ⟨rfl, hi, hb, hk⟩; refine ⟨_, rfl, ?_⟩; replace HO_295000 := i93_r hk (show IsS93 w0 _ g s0_0 x1001_2 x1002_2 from (i93_2 HI0 NB0_293 NB0_294)) HO_295000; replace BK293 := zkb hk BK293 NB293_0; replace BK294 := zkb hk BK294 NB294_0; replace HK := zqt hk (zq2 HK GW293 GW294); replace HB := am (hb); replace HI0 := am (hi); clear hb hk hi; obtain ⟨hnb120, hnc120⟩ := zn2 NB294_293; obtain ⟨hnb121, hnc121⟩ := zn2 NB294_0; obtain ⟨hcz122_0, hfz122_0⟩ := zc1 BK294.out; obtain ⟨Ao123, co123, eo123⟩ := Kd.R_slice HO_295000.out; subst eo123; obtain ⟨hnb124, hnc124⟩ := zn2 NB293_0; obtain ⟨hcz125_0, hfz125_0⟩ := zc1 BK293.out))
            refine bodyPost_ret (results_cell_row rfl _ _ gb293 31 #[.slice Ao123 x295000_2.length co123] (0, 0) _ rfl (zp0 BK293.out) Try.underlying31 rfl (by kernel_rfl)) rfl ?_
            exact ⟨_, by first | rfl | (simp [errW_none, errW_some] <;> rfl) | (simp [*, errW_none, errW_some] <;> rfl), rx (Kd.R_mono (Kd.R_far (p := ⟨gb293, 0, none⟩) (Kd.R_types HO_295000.out BK293.out (by decide)) (fun _ hk => hk.2) (.slice Ao123 x295000_2.length co123)) (fun _ hk => trivial)), (i93_2 HI0 NB0_293 NB0_294), (zb3 HB.out (IsS93.ge HI0.out) GE293.out GE294.out), (zq2 HK GW293 GW294)⟩
        ·rw [if_neg c96] at H
         have c96b0 : (t316 == 3) = false := beq_eq_false_iff_ne.mpr c96
         have c96b1 : (t316 != 3) = true := bne_iff_ne.mpr c96
         by_cases c126 : t316 = 4
         ·rw [if_pos c126] at H
          have c126b0 : (t316 == 4) = true := beq_iff_eq.mpr c126
          have c126b1 : (t316 != 4) = false := bne_eq_false_iff_eq.mpr c126
          clear c126
          replace H := Option.bind_eq_some_iff.mp H
          obtain ⟨⟨t348, t349, t350⟩, A1270, H⟩ := H
          try dsimp only at H
          have A127 := Aside0.mk A1270
          clear A1270
          replace H := Option.bind_eq_some_iff.mp H
          obtain ⟨t351, A1280, H⟩ := H
          try dsimp only at H
          have A128 := Aside0.mk A1280
          clear A1280
          by_cases c129 : 0 ≤ t313
          ·rw [if_pos c129] at H
           have c129b0 : decide (0 ≤ t313) = true := decide_eq_true c129
           clear c129
           by_cases c130 : t313 < (x295000_1.length : Int)
           ·rw [if_pos c130] at H
            have c130b0 : decide (t313 < (x295000_1.length : Int)) = true := decide_eq_true c130
            have c130b1 : decide ((x295000_1.length : Int) ≤ t313) = false := decide_eq_false (by omega)
            clear c130
            obtain ⟨y352, hy352⟩ : ∃ y_ : List (S66), y_ = (x295000_1.set (t313 : Int).toNat (⟨(rd_T66 x295000_1 t313).f0, t351, (rd_T66 x295000_1 t313).f2⟩ : S66)) := ⟨_, rfl⟩
            replace H : (some (y352, t349, t350)) = some (r1, r2, r3) := by first | (rw [hy352]; with_reducible exact H) | (have H2_ := (Option.bind_some _ _).symm.trans H; rw [hy352]; with_reducible exact H2_) | (have H2_ := (Option.bind_some _ _).symm.trans H; with_reducible exact H2_) | with_reducible exact H | (rw [hy352]; exact H) | exact H
            have Ny352 := Aside0.mk hy352
            clear hy352
            simp only [Option.some.injEq, Prod.mk.injEq] at H
            obtain ⟨rfl, rfl, rfl⟩ := H
            try go_wp2_with (first | ((with_reducible refine gate_callee (f := 66) rfl ?_); refine goesL_ (some 11) rfl rfl Try.func66 (by kernel_rfl) rfl #[.pointer (some ⟨g, 0, none⟩), .int .i64 6] rfl zr ?_; (with_reducible refine (spec_l01Below.calls g s0_0 x1001_1 x1002_1 6 t295 t296 t297 w0 _ ?side1 ?side2 A7.out).mono ?_); (case side1 => exact i93_2 HI0 NB0_293 NB0_294); (case side2 => exact zb3 HB.out (IsS93.ge HI0.out) GE293.out GE294.out); rintro e w132 ⟨rfl, hi, hb, hk⟩; refine ⟨_, rfl, ?_⟩; replace HO_295000 := i93_r hk (show IsS93 w0 _ g s0_0 x1001_1 x1002_1 from (i93_2 HI0 NB0_293 NB0_294)) HO_295000; replace BK293 := zkb hk BK293 NB293_0; replace BK294 := zkb hk BK294 NB294_0; replace HK := zqt hk (zq2 HK GW293 GW294); replace HB := am (hb); replace HI0 := am (hi); clear hb hk hi; obtain ⟨hnb133, hnc133⟩ := zn2 NB294_293; obtain ⟨hnb134, hnc134⟩ := zn2 NB294_0; obtain ⟨hcz135_0, hfz135_0⟩ := zc1 BK294.out; obtain ⟨Ao136, co136, eo136⟩ := Kd.R_slice HO_295000.out; subst eo136) | ((with_reducible refine gate_callee (f := 66) rfl ?_); refine goesL_ (some 39) rfl rfl Try.func66 (by kernel_rfl) rfl #[.pointer (some ⟨g, 0, none⟩), .int .i64 (x295000_1.length : Int)] rfl zr ?_; (with_reducible refine (spec_l01Below.calls g s0_0 t296 t297 (x295000_1.length : Int) t313 t314 t315 w0 _ ?side1 ?side2 A32.out).mono ?_); (case side1 => exact i93_2 HI0 NB0_293 NB0_294); (case side2 => exact zb3 HB.out (IsS93.ge HI0.out) GE293.out GE294.out); rintro e w137 ⟨rfl, hi, hb, hk⟩; refine ⟨_, rfl, ?_⟩; replace HO_295000 := i93_r hk (show IsS93 w0 _ g s0_0 t296 t297 from (i93_2 HI0 NB0_293 NB0_294)) HO_295000; replace BK293 := zkb hk BK293 NB293_0; replace BK294 := zkb hk BK294 NB294_0; replace HK := zqt hk (zq2 HK GW293 GW294); replace HB := am (hb); replace HI0 := am (hi); clear hb hk hi) | ((with_reducible refine gate_callee (f := 66) rfl ?_); refine goesL_ (some 41) rfl rfl Try.func66 (by kernel_rfl) rfl #[.pointer (some ⟨g, 0, none⟩), .int .i64 40] rfl zr ?_; (with_reducible refine (spec_l01Below.calls g s0_0 t314 t315 40 t316 t317 t318 w0 _ ?side1 ?side2 A33.out).mono ?_); (case side1 => exact i93_2 HI0 NB0_293 NB0_294); (case side2 => exact zb3 HB.out (IsS93.ge HI0.out) GE293.out GE294.out); rintro e w138 ⟨rfl, hi, hb, hk⟩; refine ⟨_, rfl, ?_⟩; replace HO_295000 := i93_r hk (show IsS93 w0 _ g s0_0 t314 t315 from (i93_2 HI0 NB0_293 NB0_294)) HO_295000; replace BK293 := zkb hk BK293 NB293_0; replace BK294 := zkb hk BK294 NB294_0; replace HK := zqt hk (zq2 HK GW293 GW294); replace HB := am (hb); replace HI0 := am (hi); clear hb hk hi))
            replace HO_295000 := am (Kd.R_drew HO_295000.out)
            replace BK293 := zw BK293
            replace BK294 := zw BK294
            replace HI0 := am (IsS93.drew HI0.out)
            replace HK := am (keep_drew HK.out)
            replace HB := am (below_drew1 HB.out)
            refine start_ (n := 10) (S := fun w' => w'.cell? ⟨gb294, 0, none⟩ = some (.slice Ao136 x295000_1.length co136)) (ds := [9]) #[false, false, false, false, false, false, false, false, false, false] (by kernel_rfl) rfl rfl (ct BK294.out 0) (fun hHeld => ?_); refine with_tabW spec_l03Disk.tab24 spec_l03Disk.bits24 (fun HT_ HW_ => ?_)
            generalize w138.drew = w139 at HO_295000 BK293 BK294 HI0 HK HB hHeld ⊢
            refine zpu 0 105 #[true, false, false, false, false, false, false, false, false, false] HT_ ?_
            refine zpu 2 107 #[true, false, true, false, false, false, false, false, false, false] HT_ ?_
            refine zpu 3 108 #[true, false, true, true, false, false, false, false, false, false] HT_ ?_
            refine ztk1 1 106 #[true, true, true, true, false, false, false, false, false, false] HT_ HW_ hHeld ?_
            refine zon 4 #[true, true, true, true, true, false, false, false, false, false] HT_ (fun K hK => ?_)
            refine goes_ Try.func66 (by kernel_rfl) rfl #[.pointer (some ⟨g, 0, none⟩), .int .i64 3] (by rfl) rfl rfl zr ?_
            with_reducible refine (spec_l01Below.calls g s0_0 t317 t318 3 t348 t349 t350 w0 _ ?side1 ?side2 A127.out).mono ?_
            (case side1 => exact i93_2 HI0 NB0_293 NB0_294)
            (case side2 => exact zb3 HB.out (IsS93.ge HI0.out) GE293.out GE294.out)
            rintro e w140 ⟨rfl, hi, hb, hk⟩
            refine ⟨_, rfl, ?_⟩
            replace HO_295000 := i93_r hk (show IsS93 w0 _ g s0_0 t317 t318 from (i93_2 HI0 NB0_293 NB0_294)) HO_295000
            replace BK293 := zkb hk BK293 NB293_0
            replace BK294 := zkb hk BK294 NB294_0
            replace HK := zqt hk (zq2 HK GW293 GW294)
            replace HB := am (hb)
            replace HI0 := am (hi)
            refine hK.out _ _ (ct BK294.out 0) (fun hHeld => ?_)
            clear hK K
            refine znm 109 ?_
            refine zpu 5 110 #[true, true, true, true, true, true, false, false, false, false] HT_ ?_
            refine zon 6 #[true, true, true, true, true, true, true, false, false, false] HT_ (fun K hK => ?_)
            refine goes_ Try.func72 (by kernel_rfl) rfl #[.int .i64 (wrap64 (19999 + t348)), .int .u8 65] (by rfl) rfl rfl zr ?_
            with_reducible refine (spec_l01Long.calls k1 (wrap64 (19999 + t348)) 65 t351 _ A128.out).mono ?_
            rintro e w141 ⟨rfl, hb⟩
            refine ⟨_, rfl, ?_⟩
            replace HO_295000 := zo hb HO_295000
            replace BK293 := zk hb BK293
            replace BK294 := zk hb BK294
            replace HK := am (KeepBut.trans (zq2 HK GW293 GW294) (KeepBut.of_below hb g none) (.inl rfl))
            replace HB := am (below_step ((zb3 HB.out (IsS93.ge HI0.out) GE293.out GE294.out)) hb)
            replace HI0 := am (IsS93.below (i93_2 HI0 NB0_293 NB0_294) hb)
            have p131 : 0 ≤ (t313 : Int) := zpq
            have q131 : (t313 : Int) < ((x295000_1.length : Int) : Int) := zpq
            obtain ⟨go131, co131, eo131, gb131, gl131, cl131, HG131⟩ := Kd.R_form HO_295000.out (by omega)
            (first | cases eo131 | (injection eo131 with ea_ en_ ec_; (first | subst ea_ | (injection ea_ with ea_; subst ea_)); subst ec_; clear en_))
            have GB131 := Aside0.mk gb131
            have GG131 := Aside0.mk HG131
            clear gb131 gl131 HG131
            obtain ⟨ce131, hcl131, hM131, hcc131, hfr131⟩ := Kd.R_elem HO_295000.out z66 (t313 : Int) p131 q131
            obtain rfl := k66_openM hM131
            have hx131_0 : World.cell? _ ⟨go131, (t313 : Int).toNat * 3, none⟩ = some (.string ((rd_T66 x295000_1 t313).f0)) := hcc131 0 _ rfl
            have hx131_1 : World.cell? _ ⟨go131, (t313 : Int).toNat * 3 + 1, none⟩ = some (.string ((rd_T66 x295000_1 t313).f1)) := hcc131 1 _ rfl
            have hx131_2 : World.cell? _ ⟨go131, (t313 : Int).toNat * 3 + 2, none⟩ = some (.int .i64 ((rd_T66 x295000_1 t313).f2)) := hcc131 2 _ rfl
            have hf131_0 : World.frozen? _ ⟨go131, (t313 : Int).toNat * 3, none⟩ = false := hfr131 0
            have hf131_1 : World.frozen? _ ⟨go131, (t313 : Int).toNat * 3 + 1, none⟩ = false := hfr131 1
            have hf131_2 : World.frozen? _ ⟨go131, (t313 : Int).toNat * 3 + 2, none⟩ = false := hfr131 2
            clear hcl131 hcc131 hfr131 hM131
            replace p131 := eq_true p131
            replace q131 := eq_true q131
            have HN0_go131 := Aside0.mk (show g ≠ go131 from by have h_ := IsS93.own_ne HI0.out HO_295000.out (by decide); intro e_; exact h_ (by rw [e_]; rfl))
            obtain ⟨ce142, hcl142, hM142, hcc142, hfr142⟩ := Kd.R_elem HO_295000.out z66 (t313 : Int) (of_decide_eq_true (by first | (with_reducible assumption) | assumption)) (by have h_ : (t313 : Int) < ((x295000_1.length : Int) : Int) := of_decide_eq_true (by first | (with_reducible assumption) | assumption); first | exact h_ | (have e_ := (Kd.R_reads' HO_295000.out).1; omega) | simpa using h_)
            obtain rfl := k66_openM hM142
            have HP142 := (Kd.R_seg HO_295000.out (t313 : Int) (of_decide_eq_true (by first | (with_reducible assumption) | assumption)) (by have h_ : (t313 : Int) < ((x295000_1.length : Int) : Int) := of_decide_eq_true (by first | (with_reducible assumption) | assumption); first | exact h_ | (have e_ := (Kd.R_reads' HO_295000.out).1; omega) | simpa using h_) (seg := [.string t351]) (j := 1) hcl142 hcc142 (show 2 ≤ 3 from by decide) (x' := (⟨(rd_T66 x295000_1 t313).f0, t351, (rd_T66 x295000_1 t313).f2⟩ : S66)) (k66_mkM _ _ _ (⟨(rd_T66 x295000_1 t313).f0, t351, (rd_T66 x295000_1 t313).f2⟩ : S66) ) (fun _ hk => hk)).1
            rw [← Ny352.out] at HP142
            have HQ142 := Aside0.mk HP142
            clear hcl142 hcc142 hfr142 hM142 HP142
            refine hK.out _ _ (ct BK294.out 0) (fun hHeld => ?_)
            clear hK K
            refine znm 111 ?_
            refine zpu 7 112 #[true, true, true, true, true, true, true, true, false, false] HT_ ?_
            refine zpu 8 113 #[true, true, true, true, true, true, true, true, true, false] HT_ ?_
            refine last_ (i := 9) (N := none) #[true, true, true, true, true, true, true, true, true, true] rfl rfl (one_of HT_.out (by kernel_rfl)) (by decide) (fun K hK => ?_)
            refine skip_ (w1 := ?_) (by rfl) rfl ?_ ?_
            rotate_left
            ·go_simp
             rfl
            refine hK.out _ _ ?_
            clear hK K
            refine zdn HT_ ?_
            have n0_ : Aside0 (Kd.R k66 66 (w141.setCell ⟨go131, (t313 : Int).toNat * 3 + 1, none⟩ (.string t351)) w.heap.size (fun _ => True) (.slice (some ⟨go131, 0, none⟩) x295000_1.length co136) y352) := ⟨rx HQ142.out⟩
            have n1_ : Aside0 ((w141.setCell ⟨go131, (t313 : Int).toNat * 3 + 1, none⟩ (.string t351)).heap[gb293]? = some (.cells #[.slice none 0 0] 31 (0, 0))) := ⟨by (with_reducible repeat (first | refine blk_drewN ?_ _ | refine blk_drew ?_ | refine blk_alloc ?_ _)); refine blk_far ?_ (by have h_ := Kd.R_ne HO_295000.out BK293.out (by decide); intro e_; exact h_ (by rw [e_]; rfl)) _; (with_reducible repeat (first | refine blk_drewN ?_ _ | refine blk_drew ?_ | refine blk_alloc ?_ _)); exact BK293.out⟩
            have n2_ : Aside0 ((w141.setCell ⟨go131, (t313 : Int).toNat * 3 + 1, none⟩ (.string t351)).heap[gb294]? = some (.cells #[.slice (some ⟨go131, 0, none⟩) x295000_1.length co136] 31 (0, 0))) := ⟨by (with_reducible repeat (first | refine blk_drewN ?_ _ | refine blk_drew ?_ | refine blk_alloc ?_ _)); refine blk_far ?_ (by have h_ := Kd.R_ne HO_295000.out BK294.out (by decide); intro e_; exact h_ (by rw [e_]; rfl)) _; (with_reducible repeat (first | refine blk_drewN ?_ _ | refine blk_drew ?_ | refine blk_alloc ?_ _)); exact BK294.out⟩
            have n3_ : Aside0 (IsS93 w0 (w141.setCell ⟨go131, (t313 : Int).toNat * 3 + 1, none⟩ (.string t351)) g s0_0 t349 t350) := ⟨(i93_3 HI0 HN0_go131 NB0_293 NB0_294)⟩
            have n4_ : Aside0 (KeepBut w (w141.setCell ⟨go131, (t313 : Int).toNat * 3 + 1, none⟩ (.string t351)) g none) := ⟨(zq3 HK GB131 GW293 GW294)⟩
            have n5_ : Aside0 (Below w0.heap.size w0 (w141.setCell ⟨go131, (t313 : Int).toNat * 3 + 1, none⟩ (.string t351))) := ⟨by repeat (first | (with_reducible first | exact HB.out | apply below_alloc | apply pw_below_drewN | apply below_drew1 | refine below_set ?_ (Nat.le_trans HL.out GB131.out) | refine below_set ?_ (IsS93.ge HI0.out) | refine below_set ?_ GE293.out | refine below_set ?_ GE294.out) | exact HB.out)⟩
            generalize (w141.setCell ⟨go131, (t313 : Int).toNat * 3 + 1, none⟩ (.string t351)) = w143 at n0_ n1_ n2_ n3_ n4_ n5_ ⊢
            have HO_295000 := n0_
            have BK293 := n1_
            have BK294 := n2_
            have HI0 := n3_
            have HK := n4_
            have HB := n5_
            clear n0_ n1_ n2_ n3_ n4_ n5_
            obtain ⟨hcz144_0, hfz144_0⟩ := zc1 BK294.out
            obtain ⟨hnb145, hnc145⟩ := zn2 NB293_0
            obtain ⟨hcz146_0, hfz146_0⟩ := zc1 BK293.out
            try go_wp2
            refine bodyPost_ret (results_cell_row rfl _ _ gb293 31 #[.slice (some ⟨go131, 0, none⟩) x295000_1.length co136] (0, 0) _ rfl (zp0 BK293.out) Try.underlying31 rfl (by kernel_rfl)) rfl ?_
            exact ⟨_, by first | rfl | (simp [errW_none, errW_some] <;> rfl) | (simp [*, errW_none, errW_some] <;> rfl), rx (Kd.R_mono (Kd.R_far (p := ⟨gb293, 0, none⟩) (Kd.R_types HO_295000.out BK293.out (by decide)) (fun _ hk => hk.2) (.slice (some ⟨go131, 0, none⟩) x295000_1.length co136)) (fun _ hk => trivial)), (i93_2 HI0 NB0_293 NB0_294), (zb3 HB.out (IsS93.ge HI0.out) GE293.out GE294.out), (zq2 HK GW293 GW294)⟩
           ·rw [if_neg c130] at H
            exact absurd H (by simp)
          ·rw [if_neg c129] at H
           exact absurd H (by simp)
         ·rw [if_neg c126] at H
          have c126b0 : (t316 == 4) = false := beq_eq_false_iff_ne.mpr c126
          have c126b1 : (t316 != 4) = true := bne_iff_ne.mpr c126
          simp only [Option.some.injEq, Prod.mk.injEq] at H
          obtain ⟨rfl, rfl, rfl⟩ := H
          go_wp2_with (first | ((with_reducible refine gate_callee (f := 66) rfl ?_); refine goesL_ (some 11) rfl rfl Try.func66 (by kernel_rfl) rfl #[.pointer (some ⟨g, 0, none⟩), .int .i64 6] rfl zr ?_; (with_reducible refine (spec_l01Below.calls g s0_0 x1001_1 x1002_1 6 t295 t296 t297 w0 _ ?side1 ?side2 A7.out).mono ?_); (case side1 => exact i93_2 HI0 NB0_293 NB0_294); (case side2 => exact zb3 HB.out (IsS93.ge HI0.out) GE293.out GE294.out); rintro e w147 ⟨rfl, hi, hb, hk⟩; refine ⟨_, rfl, ?_⟩; replace HO_295000 := i93_r hk (show IsS93 w0 _ g s0_0 x1001_1 x1002_1 from (i93_2 HI0 NB0_293 NB0_294)) HO_295000; replace BK293 := zkb hk BK293 NB293_0; replace BK294 := zkb hk BK294 NB294_0; replace HK := zqt hk (zq2 HK GW293 GW294); replace HB := am (hb); replace HI0 := am (hi); clear hb hk hi; obtain ⟨hnb148, hnc148⟩ := zn2 NB294_293; obtain ⟨hnb149, hnc149⟩ := zn2 NB294_0; obtain ⟨hcz150_0, hfz150_0⟩ := zc1 BK294.out; obtain ⟨Ao151, co151, eo151⟩ := Kd.R_slice HO_295000.out; subst eo151) | ((with_reducible refine gate_callee (f := 66) rfl ?_); refine goesL_ (some 39) rfl rfl Try.func66 (by kernel_rfl) rfl #[.pointer (some ⟨g, 0, none⟩), .int .i64 (x295000_1.length : Int)] rfl zr ?_; (with_reducible refine (spec_l01Below.calls g s0_0 t296 t297 (x295000_1.length : Int) t313 t314 t315 w0 _ ?side1 ?side2 A32.out).mono ?_); (case side1 => exact i93_2 HI0 NB0_293 NB0_294); (case side2 => exact zb3 HB.out (IsS93.ge HI0.out) GE293.out GE294.out); rintro e w152 ⟨rfl, hi, hb, hk⟩; refine ⟨_, rfl, ?_⟩; replace HO_295000 := i93_r hk (show IsS93 w0 _ g s0_0 t296 t297 from (i93_2 HI0 NB0_293 NB0_294)) HO_295000; replace BK293 := zkb hk BK293 NB293_0; replace BK294 := zkb hk BK294 NB294_0; replace HK := zqt hk (zq2 HK GW293 GW294); replace HB := am (hb); replace HI0 := am (hi); clear hb hk hi) | ((with_reducible refine gate_callee (f := 66) rfl ?_); refine goesL_ (some 41) rfl rfl Try.func66 (by kernel_rfl) rfl #[.pointer (some ⟨g, 0, none⟩), .int .i64 40] rfl zr ?_; (with_reducible refine (spec_l01Below.calls g s0_0 t314 t315 40 t316 t317 t318 w0 _ ?side1 ?side2 A33.out).mono ?_); (case side1 => exact i93_2 HI0 NB0_293 NB0_294); (case side2 => exact zb3 HB.out (IsS93.ge HI0.out) GE293.out GE294.out); rintro e w153 ⟨rfl, hi, hb, hk⟩; refine ⟨_, rfl, ?_⟩; replace HO_295000 := i93_r hk (show IsS93 w0 _ g s0_0 t314 t315 from (i93_2 HI0 NB0_293 NB0_294)) HO_295000; replace BK293 := zkb hk BK293 NB293_0; replace BK294 := zkb hk BK294 NB294_0; replace HK := zqt hk (zq2 HK GW293 GW294); replace HB := am (hb); replace HI0 := am (hi); clear hb hk hi; obtain ⟨hcz154_0, hfz154_0⟩ := zc1 BK294.out; obtain ⟨hnb155, hnc155⟩ := zn2 NB293_0; obtain ⟨hcz156_0, hfz156_0⟩ := zc1 BK293.out))
          refine bodyPost_ret (results_cell_row rfl _ _ gb293 31 #[.slice Ao151 x295000_1.length co151] (0, 0) _ rfl (zp0 BK293.out) Try.underlying31 rfl (by kernel_rfl)) rfl ?_
          exact ⟨_, by first | rfl | (simp [errW_none, errW_some] <;> rfl) | (simp [*, errW_none, errW_some] <;> rfl), rx (Kd.R_mono (Kd.R_far (p := ⟨gb293, 0, none⟩) (Kd.R_types HO_295000.out BK293.out (by decide)) (fun _ hk => hk.2) (.slice Ao151 x295000_1.length co151)) (fun _ hk => trivial)), (i93_2 HI0 NB0_293 NB0_294), (zb3 HB.out (IsS93.ge HI0.out) GE293.out GE294.out), (zq2 HK GW293 GW294)⟩

end Go.Proofs.Ytklbkkoojkmjbaa.QFnActs
