/- Written by the kit's print.py, called by our own print2.sh with one import more; not by print.sh. -/
import Derived.Test.YtklbkkoojkmjbaaQFnExactDoActsx0
namespace Go.Proofs.Ytklbkkoojkmjbaa.QFnExactDoActs
open Go.RowKit Go.Proofs.YtklbkkoojkmjbaaW.PrintWords Go.Proofs.YtklbkkoojkmjbaaW.PrintLast Go.Proofs.YtklbkkoojkmjbaaW.PrintMore
attribute [local go_sem] max2_int min2_int max_two min_two max_three min_three max_four min_four   -- for this text's walks alone
open Go.Proofs.Ytklbkkoojkmjbaa.Short
set_option linter.unusedVariables false
set_option linter.unusedSimpArgs false

attribute [local go_sem high] gtr_str
/-! ### spec_l03Put: function 35 -/
mutual
def spec_l03Put.l0 : Nat → Int → List (S66) → ByteArray → ByteArray → Int → List (S66) → Option ((List (S66)))
 | 0, _, _, _, _, _, _ => none
 | k + 1, x6, x156000, x157000, x157001, x157002, x159000 => if x6 < (x156000.length : Int) then (if 0 ≤ x6 then (if (Op.bytesLess (((rd_T66 x156000 x6).f0).toList) x157000.toList) = true then (if x159000.length < 3518437208883 then (spec_l03Put.l0 k (wrap64 (x6 + 1)) x156000 x157000 x157001 x157002 (x159000 ++ [(⟨(rd_T66 x156000 x6).f0, (rd_T66 x156000 x6).f1, (rd_T66 x156000 x6).f2⟩ : S66)])) else (none)) else (spec_l03Put.l0 k (wrap64 (x6 + 1)) x156000 x157000 x157001 x157002 x159000)) else (none)) else (if x159000.length < 3518437208883 then (spec_l03Put.l1 k 0 x156000 x157000 x157001 x157002 (x159000 ++ [(⟨x157000, x157001, x157002⟩ : S66)])) else (none))
def spec_l03Put.l1 : Nat → Int → List (S66) → ByteArray → ByteArray → Int → List (S66) → Option ((List (S66)))
 | 0, _, _, _, _, _, _ => none
 | k + 1, x7, x156000, x157000, x157001, x157002, x159000 => if x7 < (x156000.length : Int) then (if 0 ≤ x7 then (if (Op.bytesLess x157000.toList (((rd_T66 x156000 x7).f0).toList)) = true then (if x159000.length < 3518437208883 then (spec_l03Put.l1 k (wrap64 (x7 + 1)) x156000 x157000 x157001 x157002 (x159000 ++ [(⟨(rd_T66 x156000 x7).f0, (rd_T66 x156000 x7).f1, (rd_T66 x156000 x7).f2⟩ : S66)])) else (none)) else (spec_l03Put.l1 k (wrap64 (x7 + 1)) x156000 x157000 x157001 x157002 x159000)) else (none)) else (some x159000)
end
def spec_l03Put.f (k : Nat) (l0_0 : List (S66)) (a1_0 : ByteArray) (a1_1 : ByteArray) (a1_2 : Int) : Option ((List (S66))) := spec_l03Put.l0 k 0 l0_0 a1_0 a1_1 a1_2 ([] : List (S66))
theorem spec_l03Put.mono_l : ∀ k, (∀ y0 y1 y2 y3 y4 y5, LeO (spec_l03Put.l0 k y0 y1 y2 y3 y4 y5) (spec_l03Put.l0 (k + 1) y0 y1 y2 y3 y4 y5)) ∧ (∀ y0 y1 y2 y3 y4 y5, LeO (spec_l03Put.l1 k y0 y1 y2 y3 y4 y5) (spec_l03Put.l1 (k + 1) y0 y1 y2 y3 y4 y5))
 | 0 => ⟨fun _ _ _ _ _ _ r h => by simp [spec_l03Put.l0] at h, fun _ _ _ _ _ _ r h => by simp [spec_l03Put.l1] at h⟩
 | k + 1 => by
  obtain ⟨ih0, ih1⟩ := spec_l03Put.mono_l k
  refine ⟨?_, ?_⟩
  ·intro y0 y1 y2 y3 y4 y5
   unfold spec_l03Put.l0
   repeat' first
   | (with_reducible exact ih0 _ _ _ _ _ _)
   | (with_reducible exact ih1 _ _ _ _ _ _)
   | (with_reducible exact LeO.refl _)
   | (with_reducible exact LeO.none _)
   | (with_reducible refine LeO.ite ?_ ?_)
   | (with_reducible refine LeO.bind ?_ (fun _ => ?_))
   | exact ih0 _ _ _ _ _ _
   | exact ih1 _ _ _ _ _ _
   | exact LeO.none _
   | refine LeO.ite ?_ ?_
   | refine LeO.bind ?_ (fun _ => ?_)
  ·intro y0 y1 y2 y3 y4 y5
   unfold spec_l03Put.l1
   repeat' first
   | (with_reducible exact ih0 _ _ _ _ _ _)
   | (with_reducible exact ih1 _ _ _ _ _ _)
   | (with_reducible exact LeO.refl _)
   | (with_reducible exact LeO.none _)
   | (with_reducible refine LeO.ite ?_ ?_)
   | (with_reducible refine LeO.bind ?_ (fun _ => ?_))
   | exact ih0 _ _ _ _ _ _
   | exact ih1 _ _ _ _ _ _
   | exact LeO.none _
   | refine LeO.ite ?_ ?_
   | refine LeO.bind ?_ (fun _ => ?_)
theorem spec_l03Put.mono : ∀ a0 a1 a2 a3 k, LeO (spec_l03Put.f k a0 a1 a2 a3) (spec_l03Put.f (k + 1) a0 a1 a2 a3) := by
 intro a0 a1 a2 a3 k
 obtain ⟨ih0, ih1⟩ := spec_l03Put.mono_l k
 unfold spec_l03Put.f
 repeat' first
   | (with_reducible exact ih0 _ _ _ _ _ _)
   | (with_reducible exact ih1 _ _ _ _ _ _)
   | (with_reducible exact LeO.refl _)
   | (with_reducible exact LeO.none _)
   | (with_reducible refine LeO.ite ?_ ?_)
   | (with_reducible refine LeO.bind ?_ (fun _ => ?_))
   | exact ih0 _ _ _ _ _ _
   | exact ih1 _ _ _ _ _ _
   | exact LeO.none _
   | refine LeO.ite ?_ ?_
   | refine LeO.bind ?_ (fun _ => ?_)
def spec_l03Put.T5 : Bool × List (List Nat × List Nat) := (true, [([], []), ([0], [0]), ([], []), ([1, 2], [1, 2]), ([3], [3]), ([4], [4]), ([], []), ([6], [6]), ([5, 7], [5, 7])])
def spec_l03Put.B5 : List Nat := [0, 1, 0, 7, 15, 31, 0, 64, 255]
theorem spec_l03Put.tab5 : rtab .any (opsOf Try.f35 5) = spec_l03Put.T5 := by kernel_rfl
theorem spec_l03Put.bits5 : waitsOk spec_l03Put.T5.2 spec_l03Put.B5 = true := by kernel_rfl
def spec_l03Put.T6 : Bool × List (List Nat × List Nat) := (true, [([], []), ([0], [0]), ([], []), ([2], [2]), ([], []), ([3, 4], [3, 4]), ([5], [5]), ([6], [6]), ([1, 7], [1, 7]), ([0, 1, 2, 3, 4, 5, 6, 7, 8], []), ([9, 8, 8, 0, 1, 2, 3, 4, 5, 6, 7, 8], [8, 9])])
def spec_l03Put.B6 : List Nat := [0, 1, 0, 4, 0, 28, 60, 124, 255, 511, 1023]
theorem spec_l03Put.tab6 : rtab .any (opsOf Try.f35 6) = spec_l03Put.T6 := by kernel_rfl
theorem spec_l03Put.bits6 : waitsOk spec_l03Put.T6.2 spec_l03Put.B6 = true := by kernel_rfl
def spec_l03Put.T11 : Bool × List (List Nat × List Nat) := (true, [([], []), ([0], [0]), ([], []), ([1, 2], [1, 2]), ([3], [3]), ([4], [4]), ([], []), ([6], [6]), ([5, 7], [5, 7])])
def spec_l03Put.B11 : List Nat := [0, 1, 0, 7, 15, 31, 0, 64, 255]
theorem spec_l03Put.tab11 : rtab .any (opsOf Try.f35 11) = spec_l03Put.T11 := by kernel_rfl
theorem spec_l03Put.bits11 : waitsOk spec_l03Put.T11.2 spec_l03Put.B11 = true := by kernel_rfl
def spec_l03Put.T12 : Bool × List (List Nat × List Nat) := (true, [([], []), ([0], [0]), ([], []), ([2], [2]), ([], []), ([3, 4], [3, 4]), ([5], [5]), ([6], [6]), ([1, 7], [1, 7]), ([0, 1, 2, 3, 4, 5, 6, 7, 8], []), ([9, 8, 8, 0, 1, 2, 3, 4, 5, 6, 7, 8], [8, 9])])
def spec_l03Put.B12 : List Nat := [0, 1, 0, 4, 0, 28, 60, 124, 255, 511, 1023]
theorem spec_l03Put.tab12 : rtab .any (opsOf Try.f35 12) = spec_l03Put.T12 := by kernel_rfl
theorem spec_l03Put.bits12 : waitsOk spec_l03Put.T12.2 spec_l03Put.B12 = true := by kernel_rfl
set_option maxHeartbeats 8000000 in
set_option maxRecDepth 100000 in
theorem spec_l03Put.calls (k : Nat) (A0_0 : Option Addr) (c0_0 : Nat) (l0_0 : List (S66)) (a1_0 : ByteArray) (a1_1 : ByteArray) (a1_2 : Int) (r : List (S66)) (w : World) (hr0_0 : Kd.C k66 w A0_0 l0_0.length l0_0) (hc0_0 : l0_0.length ≤ c0_0) (h : spec_l03Put.f k l0_0 a1_0 a1_1 a1_2 = some r) :
  Calls Try.prog 35 #[.agg #[.slice A0_0 l0_0.length c0_0], .agg #[.string a1_0, .string a1_1, .int .i64 a1_2]] w fun e w' => ∃ v0_ : Value, e = .returned (.agg #[v0_]) ∧ Kd.R k66 66 w' w.heap.size (fun _ => True) v0_ r ∧ Below w.heap.size w w' := by
 have hu31 := Try.underlying31
 have hu66 := Try.underlying66
 have HR0_0 := Aside0.mk hr0_0
 have HC0_0 := Aside0.mk hc0_0
 clear hr0_0 hc0_0
 have HB := Aside0.mk (Below.refl w.heap.size w)
 have H : (spec_l03Put.l0 k 0 l0_0 a1_0 a1_1 a1_2 ([] : List (S66))) = some r := h
 clear h
 have H' := Aside0.mk H
 clear H
 go_enter Try.func35, Try.ntmps35
 go_wp2_with (first | ((with_reducible refine gate_dst (N := 2) rfl ?_); refine box_event ?hg (N := 2) ?hd (cs := #[.slice A0_0 l0_0.length c0_0]) (t := 31) ?hr ?_; (case hd => rfl); (case hg => rfl); (case hr => first | (go_simp; done) | (go_simp; rfl)); intro gb155 hg w3 hbox hb; have BK155 := am (hbox); have GW155 := zge hg (zb0 HB.out); have GE155 := zge hg (zb0 HB.out); replace HB := am (below_step (zb0 HB.out) hb); clear hb hbox hg) | ((with_reducible refine gate_dst (N := 3) rfl ?_); refine box_event ?hg (N := 3) ?hd (cs := #[.string a1_0, .string a1_1, .int .i64 a1_2]) (t := 66) ?hr ?_; (case hd => rfl); (case hg => rfl); (case hr => first | (go_simp; done) | (go_simp; rfl)); intro gb156 hg w4 hbox hb; have BK156 := am (hbox); have GW156 := zge hg (zb1 HB.out GE155.out); have GE156 := zge hg (zb1 HB.out GE155.out); have NB155_156 := znl hg (kx BK155.out); have NB156_155 := zng hg (kx BK155.out); replace BK155 := am (bb hb (kx BK155.out)); replace HB := am (below_step (zb1 HB.out GE155.out) hb); clear hb hbox hg) | ((with_reducible refine gate_dst (N := 4) rfl ?_); refine box_event ?hg (N := 4) ?hd (cs := #[.slice none 0 0]) (t := 31) ?hr ?_; (case hd => rfl); (case hg => rfl); (case hr => first | (go_simp; done) | (go_simp; rfl)); intro gb157 hg w5 hbox hb; have BK157 := am (hbox); have GW157 := zge hg (zb2 HB.out GE155.out GE156.out); have GE157 := zge hg (zb2 HB.out GE155.out GE156.out); have NB155_157 := znl hg (kx BK155.out); have NB157_155 := zng hg (kx BK155.out); have NB156_157 := znl hg (kx BK156.out); have NB157_156 := zng hg (kx BK156.out); replace BK155 := am (bb hb (kx BK155.out)); replace BK156 := am (bb hb (kx BK156.out)); replace HB := am (below_step (zb2 HB.out GE155.out GE156.out) hb); clear hb hbox hg) | ((with_reducible refine gate_dst (N := 5) rfl ?_); refine box_event ?hg (N := 5) ?hd (cs := #[.slice none 0 0]) (t := 31) ?hr ?_; (case hd => rfl); (case hg => rfl); (case hr => first | (go_simp; done) | (go_simp; rfl)); intro gb158 hg w6 hbox hb; have BK158 := am (hbox); have GW158 := zge hg (zb3 HB.out GE155.out GE156.out GE157.out); have GE158 := zge hg (zb3 HB.out GE155.out GE156.out GE157.out); have NB155_158 := znl hg (kx BK155.out); have NB158_155 := zng hg (kx BK155.out); have NB156_158 := znl hg (kx BK156.out); have NB158_156 := zng hg (kx BK156.out); have NB157_158 := znl hg (kx BK157.out); have NB158_157 := zng hg (kx BK157.out); replace BK155 := am (bb hb (kx BK155.out)); replace BK156 := am (bb hb (kx BK156.out)); replace BK157 := am (bb hb (kx BK157.out)); replace HB := am (below_step (zb3 HB.out GE155.out GE156.out GE157.out) hb); clear hb hbox hg; have hnb7 := NB158_155.out; have hnc7 := NB155_158.out; have hnb8 := NB158_156.out; have hnc8 := NB156_158.out; have hnb9 := NB158_157.out; have hnc9 := NB157_158.out; obtain ⟨hcz10_0, hfz10_0⟩ := zc1 BK158.out))
 go_loopg [6] k (fun kq v6 w' => ∃ (x6_1 : Int) (x159000_1 : List (S66)) (u159000 : Value), v6 = .int .i64 x6_1 ∧ Aside0 (spec_l03Put.l0 kq x6_1 l0_0 a1_0 a1_1 a1_2 x159000_1 = some r) ∧ Aside0 (kq ≤ k) ∧ Aside0 (Kd.R k66 66 w' w.heap.size (fun k_ => k_ ≠ gb156) u159000 x159000_1) ∧ Aside0 (w'.heap[gb155]? = some (.cells #[(.slice A0_0 l0_0.length c0_0)] 31 (0, 0))) ∧ Aside0 (w'.heap[gb156]? = some (.cells #[.string a1_0, .string a1_1, .int .i64 a1_2] 66 (0, 0))) ∧ Aside0 (w'.heap[gb157]? = some (.cells #[(.slice none 0 0)] 31 (0, 0))) ∧ Aside0 (w'.heap[gb158]? = some (.cells #[u159000] 31 (0, 0))) ∧ Aside0 (Below w.heap.size w w'))
 case atStart => exact ⟨(0), (([] : List (S66))), (.slice none 0 0), (by first | rfl | (simp; done) | (simp [*]; done)), H', ⟨Nat.le_refl _⟩, ⟨by first | exact Kd.R_nil _ _ _ _ _ | exact Kd.N_nil _ _ _ _ _ | exact Kd.V_nil _ _ _ _ _ | exact Kd.Q_nil _ _ _ _ _ | exact Kd.S_nil _ _ _ _ _⟩, ⟨zf1 BK155.out NB155_158.out⟩, ⟨zf1 BK156.out NB156_158.out⟩, ⟨zf1 BK157.out NB157_158.out⟩, ⟨by (with_reducible repeat (first | refine blk_drewN ?_ _ | refine blk_drew ?_ | refine blk_alloc ?_ _)); refine blk_put (cs := #[.slice none 0 0]) ?_ 0 _ rfl; (with_reducible repeat (first | refine blk_drewN ?_ _ | refine blk_drew ?_ | refine blk_alloc ?_ _)); exact BK158.out⟩, ⟨zb4 HB.out GE155.out GE156.out GE157.out GE158.out⟩⟩
 case round =>
  clear H'
  try clear p2
  try clear c3
  try clear c7
  try clear c8
  try clear c9
  try clear hcz10_0
  try clear hfz10_0
  obtain ⟨x6_1, x159000_1, u159000, rfl, HA, HK1, HO_159000, BK155, BK156, BK157, BK158, HB⟩ := hrel
  cases gk with
  | zero => exact absurd HA.out (by simp [spec_l03Put.l0])
  | succ k1 =>
   have H := HA.out
   clear HA
   simp only [spec_l03Put.l0] at H
   by_cases c11 : x6_1 < (l0_0.length : Int)
   ·rw [if_pos c11] at H
    have c11b0 : decide (x6_1 < (l0_0.length : Int)) = true := decide_eq_true c11
    have c11b1 : decide ((l0_0.length : Int) ≤ x6_1) = false := decide_eq_false (by omega)
    clear c11
    by_cases c12 : 0 ≤ x6_1
    ·rw [if_pos c12] at H
     have c12b0 : decide (0 ≤ x6_1) = true := decide_eq_true c12
     clear c12
     by_cases c13 : (Op.bytesLess (((rd_T66 l0_0 x6_1).f0).toList) a1_0.toList) = true
     ·rw [if_pos c13] at H
      have c13b0 : (Op.bytesLess (((rd_T66 l0_0 x6_1).f0).toList) a1_0.toList) = true := c13
      clear c13
      by_cases c14 : x159000_1.length < 3518437208883
      ·rw [if_pos c14] at H
       have LMc14 := Aside0.mk c14
       clear c14
       obtain ⟨y161, hy161⟩ : ∃ y_ : List (S66), y_ = (x159000_1 ++ [(⟨(rd_T66 l0_0 x6_1).f0, (rd_T66 l0_0 x6_1).f1, (rd_T66 l0_0 x6_1).f2⟩ : S66)]) := ⟨_, rfl⟩
       replace H : (spec_l03Put.l0 k1 (wrap64 (x6_1 + 1)) l0_0 a1_0 a1_1 a1_2 y161) = some r := by first | (rw [hy161]; with_reducible exact H) | (have H2_ := (Option.bind_some _ _).symm.trans H; rw [hy161]; with_reducible exact H2_) | (have H2_ := (Option.bind_some _ _).symm.trans H; with_reducible exact H2_) | with_reducible exact H | (rw [hy161]; exact H) | exact H
       have Ny161 := Aside0.mk hy161
       clear hy161
       have H' := Aside0.mk H
       clear H
       have hnb15 := NB155_156.out
       have hnc15 := NB156_155.out
       have hnb16 := NB155_157.out
       have hnc16 := NB157_155.out
       have hnb17 := NB155_158.out
       have hnc17 := NB158_155.out
       obtain ⟨hcz18_0, hfz18_0⟩ := zc1 BK155.out
       try go_wp2
       replace HO_159000 := am (Kd.R_drew HO_159000.out)
       replace BK155 := am (blk_drew BK155.out)
       replace BK156 := am (blk_drew BK156.out)
       replace BK157 := am (blk_drew BK157.out)
       replace BK158 := am (blk_drew BK158.out)
       replace HB := am (below_drew1 HB.out)
       have p159 : 0 ≤ (x6_1 : Int) := of_decide_eq_true (by first | (with_reducible assumption) | assumption)
       have q159 : x6_1 < (l0_0.length : Int) := of_decide_eq_true (by first | (with_reducible assumption) | assumption)
       obtain ⟨ad159, e159, hx159_0, hx159_1, hx159_2⟩ := at_T66 HR0_0.out x6_1 p159 q159
       have hw159_2 := hx159_2
       have hw159_1 := hx159_1
       have hw159_0 := hx159_0
       cases e159
       replace hx159_0 := (HB.out.cell (World.block_lt_of_cell? w _ hx159_0)).trans hx159_0
       replace hx159_1 := (HB.out.cell (World.block_lt_of_cell? w _ hx159_1)).trans hx159_1
       replace hx159_2 := (HB.out.cell (World.block_lt_of_cell? w _ hx159_2)).trans hx159_2
       replace p159 := eq_true p159
       replace q159 := eq_true q159
       refine start_ (n := 9) (S := fun w' => w'.cell? ⟨gb155, 0, none⟩ = some (.slice (some ad159) l0_0.length c0_0) ∧ w'.cell? ⟨gb156, 0, none⟩ = some (.string a1_0) ∧ w'.cell? ⟨gb156, 1, none⟩ = some (.string a1_1) ∧ w'.cell? ⟨gb156, 2, none⟩ = some (.int .i64 a1_2) ∧ w'.cell? (ad159.add ((x6_1).toNat * 3)) = some (.string ((rd_T66 l0_0 x6_1).f0)) ∧ w'.cell? ⟨(ad159.add ((x6_1).toNat * 3)).block, (ad159.add ((x6_1).toNat * 3)).off + 1, none⟩ = some (.string ((rd_T66 l0_0 x6_1).f1)) ∧ w'.cell? ⟨(ad159.add ((x6_1).toNat * 3)).block, (ad159.add ((x6_1).toNat * 3)).off + 2, none⟩ = some (.int .i64 ((rd_T66 l0_0 x6_1).f2))) (ds := []) #[false, false, false, false, false, false, false, false, false] (by kernel_rfl) rfl rfl ⟨ct BK155.out 0, ct BK156.out 0, ct BK156.out 1, ct BK156.out 2, ((HB.out.cell (World.block_lt_of_cell? w _ hw159_0)).trans hw159_0), ((HB.out.cell (World.block_lt_of_cell? w _ hw159_1)).trans hw159_1), ((HB.out.cell (World.block_lt_of_cell? w _ hw159_2)).trans hw159_2)⟩ (fun hHeld => ?_); refine with_tabW spec_l03Put.tab5 spec_l03Put.bits5 (fun HT_ HW_ => ?_)
       generalize wr.drew = w19 at HO_159000 BK155 BK156 BK157 BK158 HB hx159_0 hx159_1 hx159_2 hHeld ⊢
       refine pure_ (i := 0) (N := some 16) (v := ?_) (a' := ?_) #[true, false, false, false, false, false, false, false, false] rfl rfl (any_of HT_.out (by kernel_rfl)) (fun _ _ _ h => h) (Or.inl ⟨by rfl, ?_⟩) ?_ ?_
       rotate_left
       ·intro w'
        go_simp
        with_reducible rfl
       rotate_left
       ·simp only [Act.put, List.setIfInBounds_toArray, List.set_cons_zero, List.set_cons_succ, i64_w, i32_w]
        rfl
       refine pure_ (i := 2) (N := some 18) (v := ?_) (a' := ?_) #[true, false, true, false, false, false, false, false, false] rfl rfl (any_of HT_.out (by kernel_rfl)) (fun _ _ _ h => h) (Or.inl ⟨by rfl, ?_⟩) ?_ ?_
       rotate_left
       ·intro w'
        go_simp
        with_reducible rfl
       rotate_left
       ·simp only [Act.put, List.setIfInBounds_toArray, List.set_cons_zero, List.set_cons_succ, i64_w, i32_w]
        rfl
       refine pure_ (i := 6) (N := some 22) (v := ?_) (a' := ?_) #[true, false, true, false, false, false, true, false, false] rfl rfl (any_of HT_.out (by kernel_rfl)) (fun _ _ _ h => h) (Or.inl ⟨by rfl, ?_⟩) ?_ ?_
       rotate_left
       ·intro w'
        go_simp
        with_reducible rfl
       rotate_left
       ·simp only [Act.put, List.setIfInBounds_toArray, List.set_cons_zero, List.set_cons_succ, i64_w, i32_w]
        rfl
       refine take_ (i := 1) (N := some 17) (v := ?_) (a' := ?_) #[true, true, true, false, false, false, true, false, false] rfl rfl (take_ofW HT_.out HW_.out (by kernel_rfl)) (fun _ _ _ h => h) (Or.inl ⟨by rfl, ?_⟩) hHeld ?_ ?_
       rotate_left
       ·rintro w' ⟨s0, s1, s2, s3, s4, s5, s6⟩
        go_simp
        with_reducible rfl
       rotate_left
       ·simp only [Act.put, List.setIfInBounds_toArray, List.set_cons_zero, List.set_cons_succ, i64_w, i32_w]
        rfl
       refine pure_ (i := 3) (N := some 19) (v := ?_) (a' := ?_) #[true, true, true, true, false, false, true, false, false] rfl rfl (any_of HT_.out (by kernel_rfl)) (fun _ _ _ h => h) (Or.inl ⟨by rfl, ?_⟩) ?_ ?_
       rotate_left
       ·intro w'
        go_simp
        with_reducible rfl
       rotate_left
       ·simp only [Act.put, List.setIfInBounds_toArray, List.set_cons_zero, List.set_cons_succ, i64_w, i32_w]
        rfl
       refine pure_ (i := 4) (N := some 20) (v := ?_) (a' := ?_) #[true, true, true, true, true, false, true, false, false] rfl rfl (any_of HT_.out (by kernel_rfl)) (fun _ _ _ h => h) (Or.inl ⟨by rfl, ?_⟩) ?_ ?_
       rotate_left
       ·intro w'
        go_simp
        with_reducible rfl
       rotate_left
       ·simp only [Act.put, List.setIfInBounds_toArray, List.set_cons_zero, List.set_cons_succ, i64_w, i32_w]
        rfl
       refine take_ (i := 5) (N := some 21) (v := ?_) (a' := ?_) #[true, true, true, true, true, true, true, false, false] rfl rfl (take_ofW HT_.out HW_.out (by kernel_rfl)) (fun _ _ _ h => h) (Or.inl ⟨by rfl, ?_⟩) hHeld ?_ ?_
       rotate_left
       ·rintro w' ⟨s0, s1, s2, s3, s4, s5, s6⟩
        go_simp
        with_reducible rfl
       rotate_left
       ·simp only [Act.put, List.setIfInBounds_toArray, List.set_cons_zero, List.set_cons_succ, i64_w, i32_w]
        rfl
       refine take_ (i := 7) (N := some 23) (v := ?_) (a' := ?_) #[true, true, true, true, true, true, true, true, false] rfl rfl (take_ofW HT_.out HW_.out (by kernel_rfl)) (fun _ _ _ h => h) (Or.inl ⟨by rfl, ?_⟩) hHeld ?_ ?_
       rotate_left
       ·rintro w' ⟨s0, s1, s2, s3, s4, s5, s6⟩
        go_simp
        with_reducible rfl
       rotate_left
       ·simp only [Act.put, List.setIfInBounds_toArray, List.set_cons_zero, List.set_cons_succ, i64_w, i32_w]
        rfl
       refine pure_ (i := 8) (N := some 24) (v := ?_) (a' := ?_) #[true, true, true, true, true, true, true, true, true] rfl rfl (any_of HT_.out (by kernel_rfl)) (fun _ _ _ h => h) (Or.inl ⟨by rfl, ?_⟩) ?_ ?_
       rotate_left
       ·intro w'
        go_simp
        with_reducible rfl
       rotate_left
       ·simp only [Act.put, List.setIfInBounds_toArray, List.set_cons_zero, List.set_cons_succ, i64_w, i32_w]
        rfl
       refine done_ (done_of HT_.out (by kernel_rfl)) ?_
       try go_wp2
       replace HO_159000 := am (Kd.R_drew HO_159000.out)
       replace BK155 := am (blk_drew BK155.out)
       replace BK156 := am (blk_drew BK156.out)
       replace BK157 := am (blk_drew BK157.out)
       replace BK158 := am (blk_drew BK158.out)
       replace HB := am (below_drew1 HB.out)
       have p160 : 0 ≤ (x6_1 : Int) := of_decide_eq_true (by first | (with_reducible assumption) | assumption)
       have q160 : x6_1 < (l0_0.length : Int) := of_decide_eq_true (by first | (with_reducible assumption) | assumption)
       obtain ⟨ad160, e160, hx160_0, hx160_1, hx160_2⟩ := at_T66 HR0_0.out x6_1 p160 q160
       have hw160_2 := hx160_2
       have hw160_1 := hx160_1
       have hw160_0 := hx160_0
       obtain rfl : ad159 = ad160 := (by injection e160)
       replace hx160_0 := (HB.out.cell (World.block_lt_of_cell? w _ hx160_0)).trans hx160_0
       replace hx160_1 := (HB.out.cell (World.block_lt_of_cell? w _ hx160_1)).trans hx160_1
       replace hx160_2 := (HB.out.cell (World.block_lt_of_cell? w _ hx160_2)).trans hx160_2
       replace p160 := eq_true p160
       replace q160 := eq_true q160
       refine start_ (n := 11) (S := fun w' => w'.cell? ⟨gb158, 0, none⟩ = some (u159000) ∧ w'.cell? ⟨gb155, 0, none⟩ = some (.slice (some ad159) l0_0.length c0_0) ∧ w'.cell? (ad159.add ((x6_1).toNat * 3)) = some (.string ((rd_T66 l0_0 x6_1).f0)) ∧ w'.cell? ⟨(ad159.add ((x6_1).toNat * 3)).block, (ad159.add ((x6_1).toNat * 3)).off + 1, none⟩ = some (.string ((rd_T66 l0_0 x6_1).f1)) ∧ w'.cell? ⟨(ad159.add ((x6_1).toNat * 3)).block, (ad159.add ((x6_1).toNat * 3)).off + 2, none⟩ = some (.int .i64 ((rd_T66 l0_0 x6_1).f2))) (ds := [10]) #[false, false, false, false, false, false, false, false, false, false, false] (by kernel_rfl) rfl rfl ⟨ct BK158.out 0, ct BK155.out 0, ((HB.out.cell (World.block_lt_of_cell? w _ hw160_0)).trans hw160_0), ((HB.out.cell (World.block_lt_of_cell? w _ hw160_1)).trans hw160_1), ((HB.out.cell (World.block_lt_of_cell? w _ hw160_2)).trans hw160_2)⟩ (fun hHeld => ?_); refine with_tabW spec_l03Put.tab6 spec_l03Put.bits6 (fun HT_ HW_ => ?_)
       generalize w19.drew = w20 at HO_159000 BK155 BK156 BK157 BK158 HB hx160_0 hx160_1 hx160_2 hHeld ⊢
       refine pure_ (i := 0) (N := some 25) (v := ?_) (a' := ?_) #[true, false, false, false, false, false, false, false, false, false, false] rfl rfl (any_of HT_.out (by kernel_rfl)) (fun _ _ _ h => h) (Or.inl ⟨by rfl, ?_⟩) ?_ ?_
       rotate_left
       ·intro w'
        go_simp
        with_reducible rfl
       rotate_left
       ·simp only [Act.put, List.setIfInBounds_toArray, List.set_cons_zero, List.set_cons_succ, i64_w, i32_w]
        rfl
       refine pure_ (i := 2) (N := some 27) (v := ?_) (a' := ?_) #[true, false, true, false, false, false, false, false, false, false, false] rfl rfl (any_of HT_.out (by kernel_rfl)) (fun _ _ _ h => h) (Or.inl ⟨by rfl, ?_⟩) ?_ ?_
       rotate_left
       ·intro w'
        go_simp
        with_reducible rfl
       rotate_left
       ·simp only [Act.put, List.setIfInBounds_toArray, List.set_cons_zero, List.set_cons_succ, i64_w, i32_w]
        rfl
       refine pure_ (i := 4) (N := some 29) (v := ?_) (a' := ?_) #[true, false, true, false, true, false, false, false, false, false, false] rfl rfl (any_of HT_.out (by kernel_rfl)) (fun _ _ _ h => h) (Or.inl ⟨by rfl, ?_⟩) ?_ ?_
       rotate_left
       ·intro w'
        go_simp
        with_reducible rfl
       rotate_left
       ·simp only [Act.put, List.setIfInBounds_toArray, List.set_cons_zero, List.set_cons_succ, i64_w, i32_w]
        rfl
       refine take_ (i := 1) (N := some 26) (v := ?_) (a' := ?_) #[true, true, true, false, true, false, false, false, false, false, false] rfl rfl (take_ofW HT_.out HW_.out (by kernel_rfl)) (fun _ _ _ h => h) (Or.inl ⟨by rfl, ?_⟩) hHeld ?_ ?_
       rotate_left
       ·rintro w' ⟨s0, s1, s2, s3, s4⟩
        go_simp
        with_reducible rfl
       rotate_left
       ·simp only [Act.put, List.setIfInBounds_toArray, List.set_cons_zero, List.set_cons_succ, i64_w, i32_w]
        rfl
       refine take_ (i := 3) (N := some 28) (v := ?_) (a' := ?_) #[true, true, true, true, true, false, false, false, false, false, false] rfl rfl (take_ofW HT_.out HW_.out (by kernel_rfl)) (fun _ _ _ h => h) (Or.inl ⟨by rfl, ?_⟩) hHeld ?_ ?_
       rotate_left
       ·rintro w' ⟨s0, s1, s2, s3, s4⟩
        go_simp
        with_reducible rfl
       rotate_left
       ·simp only [Act.put, List.setIfInBounds_toArray, List.set_cons_zero, List.set_cons_succ, i64_w, i32_w]
        rfl
       refine pure_ (i := 5) (N := some 30) (v := ?_) (a' := ?_) #[true, true, true, true, true, true, false, false, false, false, false] rfl rfl (any_of HT_.out (by kernel_rfl)) (fun _ _ _ h => h) (Or.inl ⟨by rfl, ?_⟩) ?_ ?_
       rotate_left
       ·intro w'
        go_simp
        with_reducible rfl
       rotate_left
       ·simp only [Act.put, List.setIfInBounds_toArray, List.set_cons_zero, List.set_cons_succ, i64_w, i32_w]
        rfl
       refine take_ (i := 6) (N := some 31) (v := ?_) (a' := ?_) #[true, true, true, true, true, true, true, false, false, false, false] rfl rfl (take_ofW HT_.out HW_.out (by kernel_rfl)) (fun _ _ _ h => h) (Or.inl ⟨by rfl, ?_⟩) hHeld ?_ ?_
       rotate_left
       ·rintro w' ⟨s0, s1, s2, s3, s4⟩
        go_simp
        with_reducible rfl
       rotate_left
       ·simp only [Act.put, List.setIfInBounds_toArray, List.set_cons_zero, List.set_cons_succ, i64_w, i32_w]
        rfl
       refine one_ (i := 7) (N := some 32) #[true, true, true, true, true, true, true, true, false, false, false] rfl rfl (one_of HT_.out (by kernel_rfl)) (by decide) (fun K hK => ?_)
       refine value_ (w1 := ?_) (v := ?_) (by rfl) rfl ?_ ?_
       rotate_left 2
       ·go_simp
        constructor
        ·rfl
        ·rfl
       refine hK.out _ _ ⟨(blk_cell (blk_alloc BK158.out _) 0).trans rfl, (blk_cell (blk_alloc BK155.out _) 0).trans rfl, (World.cell?_alloc_lt _ _ _ (World.block_lt_of_cell? _ _ (((HB.out.cell (World.block_lt_of_cell? w _ hw160_0)).trans hw160_0)))).trans (((HB.out.cell (World.block_lt_of_cell? w _ hw160_0)).trans hw160_0)), (World.cell?_alloc_lt _ _ _ (World.block_lt_of_cell? _ _ (((HB.out.cell (World.block_lt_of_cell? w _ hw160_1)).trans hw160_1)))).trans (((HB.out.cell (World.block_lt_of_cell? w _ hw160_1)).trans hw160_1)), (World.cell?_alloc_lt _ _ _ (World.block_lt_of_cell? _ _ (((HB.out.cell (World.block_lt_of_cell? w _ hw160_2)).trans hw160_2)))).trans (((HB.out.cell (World.block_lt_of_cell? w _ hw160_2)).trans hw160_2))⟩ (fun hHeld => ?_)
       clear hK K
       refine norm_ (a' := ?_) ?_ ?_
       rotate_left
       ·show Act.put _ (some 32) _ = _
        simp only [Act.put, List.setIfInBounds_toArray, List.set_cons_zero, List.set_cons_succ, i64_w, i32_w]
        rfl
       refine one_ (i := 8) (N := some 33) #[true, true, true, true, true, true, true, true, true, false, false] rfl rfl (one_of HT_.out (by kernel_rfl)) (by decide) (fun K hK => ?_)
       refine Kd.R_append_step k66 (w0 := w) w.heap.size (by rfl) (.tmp 26) (.tmp 32) 29 66 (.agg #[(.string ⟨#[]⟩), (.string ⟨#[]⟩), (.int .i64 0)]) 40 rfl Try.underlying29 info66 rfl (by decide) (by omega) u159000 x159000_1 (⟨(rd_T66 l0_0 x6_1).f0, (rd_T66 l0_0 x6_1).f1, (rd_T66 l0_0 x6_1).f2⟩ : S66) [.string ((rd_T66 l0_0 x6_1).f0), .string ((rd_T66 l0_0 x6_1).f1), .int .i64 ((rd_T66 l0_0 x6_1).f2)] (fun k_ => k_ ≠ gb156) (fun _ => False) rfl rfl ?aP (fun _ hk => hk.elim) ?aF ?aO ?aB ?aS ?aL ?_
       (case aP => exact k66_mkM _ _ _ (⟨(rd_T66 l0_0 x6_1).f0, (rd_T66 l0_0 x6_1).f1, (rd_T66 l0_0 x6_1).f2⟩ : S66))
       (case aB => exact (zb4 HB.out GE155.out GE156.out GE157.out GE158.out))
       (case aF => exact (fun k_ hk => Kd.freshB (g := gb156) (o := .cells #[.string a1_0, .string a1_1, .int .i64 a1_2] 66 (0, 0)) (kx BK156.out) k_ hk))
       (case aO => exact (rx HO_159000.out))
       (case aS => exact (below_size (zb4 HB.out GE155.out GE156.out GE157.out GE158.out)))
       (case aL => have := LMc14.out; omega)
       intro v162 w21 ho hb hg hat
       rw [← Ny161.out] at ho
       have HO163 := am (ho)
       replace BK155 := am (blk_grown (g := gb155) (o := .cells #[.slice (some ad159) l0_0.length c0_0] 31 (0, 0)) (kx BK155.out) hg (Kd.R_ne HO_159000.out BK155.out (by decide)))
       replace BK156 := am (blk_grown (g := gb156) (o := .cells #[.string a1_0, .string a1_1, .int .i64 a1_2] 66 (0, 0)) (kx BK156.out) hg (Kd.R_away HO_159000.out (fun _ hk => hk)))
       replace BK157 := am (blk_grown (g := gb157) (o := .cells #[.slice none 0 0] 31 (0, 0)) (kx BK157.out) hg (Kd.R_ne HO_159000.out BK157.out (by decide)))
       replace BK158 := am (blk_grown (g := gb158) (o := .cells #[u159000] 31 (0, 0)) (kx BK158.out) hg (Kd.R_ne HO_159000.out BK158.out (by decide)))
       replace HB := am (hb)
       clear HO_159000 ho hb hg hat
       obtain ⟨Ao22, co22, eo22⟩ := Kd.R_slice HO163.out
       (first | subst eo22 | (injection eo22 with f1_ f2_ f3_; have f4_ := f1_.symm; have f5_ := f3_.symm; clear f1_ f2_ f3_; subst f4_; subst f5_))
       refine hK.out _ _ ⟨ct BK158.out 0, ct BK155.out 0, ((HB.out.cell (World.block_lt_of_cell? w _ hw160_0)).trans hw160_0), ((HB.out.cell (World.block_lt_of_cell? w _ hw160_1)).trans hw160_1), ((HB.out.cell (World.block_lt_of_cell? w _ hw160_2)).trans hw160_2)⟩ (fun hHeld => ?_)
       clear hK K
       refine norm_ (a' := ?_) ?_ ?_
       rotate_left
       ·show Act.put _ (some 33) _ = _
        simp only [Act.put, List.setIfInBounds_toArray, List.set_cons_zero, List.set_cons_succ, i64_w, i32_w]
        rfl
       refine pure_ (i := 9) (N := some 34) (v := ?_) (a' := ?_) #[true, true, true, true, true, true, true, true, true, true, false] rfl rfl (any_of HT_.out (by kernel_rfl)) (fun _ _ _ h => h) (Or.inl ⟨by rfl, ?_⟩) ?_ ?_
       rotate_left
       ·intro w'
        go_simp
        with_reducible rfl
       rotate_left
       ·simp only [Act.put, List.setIfInBounds_toArray, List.set_cons_zero, List.set_cons_succ, i64_w, i32_w]
        rfl
       refine last_ (i := 10) (N := none) #[true, true, true, true, true, true, true, true, true, true, true] rfl rfl (one_of HT_.out (by kernel_rfl)) (by decide) (fun K hK => ?_)
       have hs23 : w21.cell? ⟨gb158, 0, none⟩ = some (u159000) := ct BK158.out 0
       have hfs23 := blk_frozen BK158.out 0
       have hns23_0 := NB155_158.out
       have hns23_1 := NB156_158.out
       have hns23_2 := NB157_158.out
       have hms23_0 := NB158_155.out
       have hms23_1 := NB158_156.out
       have hms23_2 := NB158_157.out
       refine skip_ (w1 := ?_) (by rfl) rfl ?_ ?_
       rotate_left
       ·go_simp
        rfl
       refine hK.out _ _ ?_
       clear hK K
       refine done_ (done_of HT_.out (by kernel_rfl)) ?_
       try go_wp2
       go_roundg k1
       case measure => have := HK1.out; omega
       case rel => exact ⟨(wrap64 (x6_1 + 1)), (y161), (.slice Ao22 y161.length co22), (by first | rfl | (simp; done) | (simp [*]; done)), H', ⟨by have := HK1.out; omega⟩, ⟨rx (Kd.R_mono (Kd.R_far (p := ⟨gb158, 0, none⟩) (Kd.R_types HO163.out BK158.out (by decide)) (fun _ hk => hk.2) (.slice Ao22 y161.length co22)) (fun _ hk => hk.1))⟩, ⟨zf1 BK155.out NB155_158.out⟩, ⟨zf1 BK156.out NB156_158.out⟩, ⟨zf1 BK157.out NB157_158.out⟩, ⟨by (with_reducible repeat (first | refine blk_drewN ?_ _ | refine blk_drew ?_ | refine blk_alloc ?_ _)); refine blk_put (cs := #[u159000]) ?_ 0 _ rfl; (with_reducible repeat (first | refine blk_drewN ?_ _ | refine blk_drew ?_ | refine blk_alloc ?_ _)); exact BK158.out⟩, ⟨zb4 HB.out GE155.out GE156.out GE157.out GE158.out⟩⟩
      ·rw [if_neg c14] at H
       exact absurd H (by simp)
     ·rw [if_neg c13] at H
      have c13b0 : (Op.bytesLess (((rd_T66 l0_0 x6_1).f0).toList) a1_0.toList) = false := by simpa using c13
      clear c13
      have H' := Aside0.mk H
      clear H
      have hnb24 := NB155_156.out
      have hnc24 := NB156_155.out
      have hnb25 := NB155_157.out
      have hnc25 := NB157_155.out
      have hnb26 := NB155_158.out
      have hnc26 := NB158_155.out
      obtain ⟨hcz27_0, hfz27_0⟩ := zc1 BK155.out
      try go_wp2
      replace HO_159000 := am (Kd.R_drew HO_159000.out)
      replace BK155 := am (blk_drew BK155.out)
      replace BK156 := am (blk_drew BK156.out)
      replace BK157 := am (blk_drew BK157.out)
      replace BK158 := am (blk_drew BK158.out)
      replace HB := am (below_drew1 HB.out)
      have p159 : 0 ≤ (x6_1 : Int) := of_decide_eq_true (by first | (with_reducible assumption) | assumption)
      have q159 : x6_1 < (l0_0.length : Int) := of_decide_eq_true (by first | (with_reducible assumption) | assumption)
      obtain ⟨ad159, e159, hx159_0, hx159_1, hx159_2⟩ := at_T66 HR0_0.out x6_1 p159 q159
      have hw159_2 := hx159_2
      have hw159_1 := hx159_1
      have hw159_0 := hx159_0
      cases e159
      replace hx159_0 := (HB.out.cell (World.block_lt_of_cell? w _ hx159_0)).trans hx159_0
      replace hx159_1 := (HB.out.cell (World.block_lt_of_cell? w _ hx159_1)).trans hx159_1
      replace hx159_2 := (HB.out.cell (World.block_lt_of_cell? w _ hx159_2)).trans hx159_2
      replace p159 := eq_true p159
      replace q159 := eq_true q159
      refine start_ (n := 9) (S := fun w' => w'.cell? ⟨gb155, 0, none⟩ = some (.slice (some ad159) l0_0.length c0_0) ∧ w'.cell? ⟨gb156, 0, none⟩ = some (.string a1_0) ∧ w'.cell? ⟨gb156, 1, none⟩ = some (.string a1_1) ∧ w'.cell? ⟨gb156, 2, none⟩ = some (.int .i64 a1_2) ∧ w'.cell? (ad159.add ((x6_1).toNat * 3)) = some (.string ((rd_T66 l0_0 x6_1).f0)) ∧ w'.cell? ⟨(ad159.add ((x6_1).toNat * 3)).block, (ad159.add ((x6_1).toNat * 3)).off + 1, none⟩ = some (.string ((rd_T66 l0_0 x6_1).f1)) ∧ w'.cell? ⟨(ad159.add ((x6_1).toNat * 3)).block, (ad159.add ((x6_1).toNat * 3)).off + 2, none⟩ = some (.int .i64 ((rd_T66 l0_0 x6_1).f2))) (ds := []) #[false, false, false, false, false, false, false, false, false] (by kernel_rfl) rfl rfl ⟨ct BK155.out 0, ct BK156.out 0, ct BK156.out 1, ct BK156.out 2, ((HB.out.cell (World.block_lt_of_cell? w _ hw159_0)).trans hw159_0), ((HB.out.cell (World.block_lt_of_cell? w _ hw159_1)).trans hw159_1), ((HB.out.cell (World.block_lt_of_cell? w _ hw159_2)).trans hw159_2)⟩ (fun hHeld => ?_); refine with_tabW spec_l03Put.tab5 spec_l03Put.bits5 (fun HT_ HW_ => ?_)
      generalize wr.drew = w28 at HO_159000 BK155 BK156 BK157 BK158 HB hx159_0 hx159_1 hx159_2 hHeld ⊢
      refine pure_ (i := 0) (N := some 16) (v := ?_) (a' := ?_) #[true, false, false, false, false, false, false, false, false] rfl rfl (any_of HT_.out (by kernel_rfl)) (fun _ _ _ h => h) (Or.inl ⟨by rfl, ?_⟩) ?_ ?_
      rotate_left
      ·intro w'
       go_simp
       with_reducible rfl
      rotate_left
      ·simp only [Act.put, List.setIfInBounds_toArray, List.set_cons_zero, List.set_cons_succ, i64_w, i32_w]
       rfl
      refine pure_ (i := 2) (N := some 18) (v := ?_) (a' := ?_) #[true, false, true, false, false, false, false, false, false] rfl rfl (any_of HT_.out (by kernel_rfl)) (fun _ _ _ h => h) (Or.inl ⟨by rfl, ?_⟩) ?_ ?_
      rotate_left
      ·intro w'
       go_simp
       with_reducible rfl
      rotate_left
      ·simp only [Act.put, List.setIfInBounds_toArray, List.set_cons_zero, List.set_cons_succ, i64_w, i32_w]
       rfl
      refine pure_ (i := 6) (N := some 22) (v := ?_) (a' := ?_) #[true, false, true, false, false, false, true, false, false] rfl rfl (any_of HT_.out (by kernel_rfl)) (fun _ _ _ h => h) (Or.inl ⟨by rfl, ?_⟩) ?_ ?_
      rotate_left
      ·intro w'
       go_simp
       with_reducible rfl
      rotate_left
      ·simp only [Act.put, List.setIfInBounds_toArray, List.set_cons_zero, List.set_cons_succ, i64_w, i32_w]
       rfl
      refine take_ (i := 1) (N := some 17) (v := ?_) (a' := ?_) #[true, true, true, false, false, false, true, false, false] rfl rfl (take_ofW HT_.out HW_.out (by kernel_rfl)) (fun _ _ _ h => h) (Or.inl ⟨by rfl, ?_⟩) hHeld ?_ ?_
      rotate_left
      ·rintro w' ⟨s0, s1, s2, s3, s4, s5, s6⟩
       go_simp
       with_reducible rfl
      rotate_left
      ·simp only [Act.put, List.setIfInBounds_toArray, List.set_cons_zero, List.set_cons_succ, i64_w, i32_w]
       rfl
      refine pure_ (i := 3) (N := some 19) (v := ?_) (a' := ?_) #[true, true, true, true, false, false, true, false, false] rfl rfl (any_of HT_.out (by kernel_rfl)) (fun _ _ _ h => h) (Or.inl ⟨by rfl, ?_⟩) ?_ ?_
      rotate_left
      ·intro w'
       go_simp
       with_reducible rfl
      rotate_left
      ·simp only [Act.put, List.setIfInBounds_toArray, List.set_cons_zero, List.set_cons_succ, i64_w, i32_w]
       rfl
      refine pure_ (i := 4) (N := some 20) (v := ?_) (a' := ?_) #[true, true, true, true, true, false, true, false, false] rfl rfl (any_of HT_.out (by kernel_rfl)) (fun _ _ _ h => h) (Or.inl ⟨by rfl, ?_⟩) ?_ ?_
      rotate_left
      ·intro w'
       go_simp
       with_reducible rfl
      rotate_left
      ·simp only [Act.put, List.setIfInBounds_toArray, List.set_cons_zero, List.set_cons_succ, i64_w, i32_w]
       rfl
      refine take_ (i := 5) (N := some 21) (v := ?_) (a' := ?_) #[true, true, true, true, true, true, true, false, false] rfl rfl (take_ofW HT_.out HW_.out (by kernel_rfl)) (fun _ _ _ h => h) (Or.inl ⟨by rfl, ?_⟩) hHeld ?_ ?_
      rotate_left
      ·rintro w' ⟨s0, s1, s2, s3, s4, s5, s6⟩
       go_simp
       with_reducible rfl
      rotate_left
      ·simp only [Act.put, List.setIfInBounds_toArray, List.set_cons_zero, List.set_cons_succ, i64_w, i32_w]
       rfl
      refine take_ (i := 7) (N := some 23) (v := ?_) (a' := ?_) #[true, true, true, true, true, true, true, true, false] rfl rfl (take_ofW HT_.out HW_.out (by kernel_rfl)) (fun _ _ _ h => h) (Or.inl ⟨by rfl, ?_⟩) hHeld ?_ ?_
      rotate_left
      ·rintro w' ⟨s0, s1, s2, s3, s4, s5, s6⟩
       go_simp
       with_reducible rfl
      rotate_left
      ·simp only [Act.put, List.setIfInBounds_toArray, List.set_cons_zero, List.set_cons_succ, i64_w, i32_w]
       rfl
      refine pure_ (i := 8) (N := some 24) (v := ?_) (a' := ?_) #[true, true, true, true, true, true, true, true, true] rfl rfl (any_of HT_.out (by kernel_rfl)) (fun _ _ _ h => h) (Or.inl ⟨by rfl, ?_⟩) ?_ ?_
      rotate_left
      ·intro w'
       go_simp
       with_reducible rfl
      rotate_left
      ·simp only [Act.put, List.setIfInBounds_toArray, List.set_cons_zero, List.set_cons_succ, i64_w, i32_w]
       rfl
      refine done_ (done_of HT_.out (by kernel_rfl)) ?_
      try go_wp2
      go_roundg k1
      case measure => have := HK1.out; omega
      case rel => exact ⟨(wrap64 (x6_1 + 1)), (x159000_1), (u159000), (by first | rfl | (simp; done) | (simp [*]; done)), H', ⟨by have := HK1.out; omega⟩, ⟨rx HO_159000.out⟩, ⟨kx BK155.out⟩, ⟨kx BK156.out⟩, ⟨kx BK157.out⟩, ⟨kx BK158.out⟩, ⟨zb4 HB.out GE155.out GE156.out GE157.out GE158.out⟩⟩
    ·rw [if_neg c12] at H
     exact absurd H (by simp)
   ·rw [if_neg c11] at H
    have c11b0 : decide (x6_1 < (l0_0.length : Int)) = false := decide_eq_false c11
    have c11b1 : decide ((l0_0.length : Int) ≤ x6_1) = true := decide_eq_true (by omega)
    clear c11
    by_cases c29 : x159000_1.length < 3518437208883
    ·rw [if_pos c29] at H
     have LMc29 := Aside0.mk c29
     clear c29
     obtain ⟨y164, hy164⟩ : ∃ y_ : List (S66), y_ = (x159000_1 ++ [(⟨a1_0, a1_1, a1_2⟩ : S66)]) := ⟨_, rfl⟩
     replace H : (spec_l03Put.l1 k1 0 l0_0 a1_0 a1_1 a1_2 y164) = some r := by first | (rw [hy164]; with_reducible exact H) | (have H2_ := (Option.bind_some _ _).symm.trans H; rw [hy164]; with_reducible exact H2_) | (have H2_ := (Option.bind_some _ _).symm.trans H; with_reducible exact H2_) | with_reducible exact H | (rw [hy164]; exact H) | exact H
     have Ny164 := Aside0.mk hy164
     clear hy164
     have H' := Aside0.mk H
     clear H
     have hnb30 := NB155_156.out
     have hnc30 := NB156_155.out
     have hnb31 := NB155_157.out
     have hnc31 := NB157_155.out
     have hnb32 := NB155_158.out
     have hnc32 := NB158_155.out
     obtain ⟨hcz33_0, hfz33_0⟩ := zc1 BK155.out
     have hnb34 := NB158_156.out
     have hnc34 := NB156_158.out
     have hnb35 := NB158_157.out
     have hnc35 := NB157_158.out
     obtain ⟨hcz36_0, hfz36_0⟩ := zc1 BK158.out
     have hnb37 := NB156_157.out
     have hnc37 := NB157_156.out
     obtain ⟨hcz38_0, hcz38_1, hcz38_2, hfz38_0, hfz38_1, hfz38_2⟩ := zc3 BK156.out
     go_wp2_with (first | ((with_reducible refine gate_builtin (b := .append) (xs := #[.tmp 36, .tmp 38]) rfl ?_); at_builtin; refine Kd.R_append k66 (w0 := w) w.heap.size rfl (.tmp 36) (.tmp 38) 29 66 (.agg #[(.string ⟨#[]⟩), (.string ⟨#[]⟩), (.int .i64 0)]) 40 rfl Try.underlying29 info66 rfl (by decide) (by omega) u159000 x159000_1 (⟨a1_0, a1_1, a1_2⟩ : S66) [.string a1_0, .string a1_1, .int .i64 a1_2] (fun k_ => k_ ≠ gb156) (fun _ => False) rfl rfl ?aP (fun _ hk => hk.elim) ?aF ?aO ?aB ?aS ?aL ?_; (case aP => exact k66_mkM _ _ _ (⟨a1_0, a1_1, a1_2⟩ : S66)); (case aB => exact (zb4 HB.out GE155.out GE156.out GE157.out GE158.out)); (case aF => exact (fun k_ hk => Kd.freshB (g := gb156) (o := .cells #[.string a1_0, .string a1_1, .int .i64 a1_2] 66 (0, 0)) (kx BK156.out) k_ hk)); (case aO => exact (rx HO_159000.out)); (case aS => exact (below_size (zb4 HB.out GE155.out GE156.out GE157.out GE158.out))); (case aL => have := LMc29.out; omega); intro v165 w39 ho hb hg hat; rw [← Ny164.out] at ho; have HO166 := am (ho); replace BK155 := am (blk_grown (g := gb155) (o := .cells #[.slice A0_0 l0_0.length c0_0] 31 (0, 0)) (kx BK155.out) hg (Kd.R_ne HO_159000.out BK155.out (by decide))); replace BK156 := am (blk_grown (g := gb156) (o := .cells #[.string a1_0, .string a1_1, .int .i64 a1_2] 66 (0, 0)) (kx BK156.out) hg (Kd.R_away HO_159000.out (fun _ hk => hk))); replace BK157 := am (blk_grown (g := gb157) (o := .cells #[.slice none 0 0] 31 (0, 0)) (kx BK157.out) hg (Kd.R_ne HO_159000.out BK157.out (by decide))); replace BK158 := am (blk_grown (g := gb158) (o := .cells #[u159000] 31 (0, 0)) (kx BK158.out) hg (Kd.R_ne HO_159000.out BK158.out (by decide))); replace HB := am (hb); clear HO_159000; clear ho hb hg hat; obtain ⟨Ao40, co40, eo40⟩ := Kd.R_slice HO166.out; subst eo40; obtain ⟨hcz41_0, hfz41_0⟩ := zc1 BK158.out))
     go_loopg [7] k1 (fun kq v7 w' => ∃ (x7_2 : Int) (x159000_2 : List (S66)) (u159000 : Value), v7 = .int .i64 x7_2 ∧ Aside0 (spec_l03Put.l1 kq x7_2 l0_0 a1_0 a1_1 a1_2 x159000_2 = some r) ∧ Aside0 (kq ≤ k1) ∧ Aside0 (Kd.R k66 66 w' w.heap.size (fun k_ => k_ ≠ gb156) u159000 x159000_2) ∧ Aside0 (w'.heap[gb155]? = some (.cells #[(.slice A0_0 l0_0.length c0_0)] 31 (0, 0))) ∧ Aside0 (w'.heap[gb156]? = some (.cells #[.string a1_0, .string a1_1, .int .i64 a1_2] 66 (0, 0))) ∧ Aside0 (w'.heap[gb157]? = some (.cells #[(.slice none 0 0)] 31 (0, 0))) ∧ Aside0 (w'.heap[gb158]? = some (.cells #[u159000] 31 (0, 0))) ∧ Aside0 (Below w.heap.size w w'))
     case atStart => exact ⟨(0), (y164), (.slice Ao40 y164.length co40), (by first | rfl | (simp; done) | (simp [*]; done)), H', ⟨Nat.le_refl _⟩, ⟨rx (Kd.R_mono (Kd.R_far (p := ⟨gb158, 0, none⟩) (Kd.R_types HO166.out BK158.out (by decide)) (fun _ hk => hk.2) (.slice Ao40 y164.length co40)) (fun _ hk => hk.1))⟩, ⟨zf1 BK155.out NB155_158.out⟩, ⟨zf1 BK156.out NB156_158.out⟩, ⟨zf1 BK157.out NB157_158.out⟩, ⟨by (with_reducible repeat (first | refine blk_drewN ?_ _ | refine blk_drew ?_ | refine blk_alloc ?_ _)); refine blk_put (cs := #[u159000]) ?_ 0 _ rfl; (with_reducible repeat (first | refine blk_drewN ?_ _ | refine blk_drew ?_ | refine blk_alloc ?_ _)); exact BK158.out⟩, ⟨zb4 HB.out GE155.out GE156.out GE157.out GE158.out⟩⟩
     case round =>
      clear H'
      try clear c1
      try clear p1
      try clear q1
      try clear hx1
      try clear c2
      try clear p2
      try clear c3
      try clear p6
      try clear c7
      try clear c8
      try clear c9
      try clear c11
      try clear c11b0
      try clear c11b1
      try clear c12
      try clear c12b0
      try clear c13
      try clear c13b0
      try clear c14
      try clear c15
      try clear p15
      try clear q15
      try clear hx15
      try clear c16
      try clear p16
      try clear q16
      try clear hx16
      try clear c17
      try clear c24
      try clear c25
      try clear c26
      try clear c29
      try clear c30
      try clear c31
      try clear c32
      try clear c34
      try clear c35
      try clear c37
      try clear hcz10_0
      try clear hcz18_0
      try clear hcz27_0
      try clear hcz33_0
      try clear hcz36_0
      try clear hcz38_0
      try clear hcz38_1
      try clear hcz38_2
      try clear hcz41_0
      try clear hfz10_0
      try clear hfz18_0
      try clear hfz27_0
      try clear hfz33_0
      try clear hfz36_0
      try clear hfz38_0
      try clear hfz38_1
      try clear hfz38_2
      try clear hfz41_0
      try clear hx159_0
      try clear hx159_1
      try clear hx159_2
      try clear hx160_0
      try clear hx160_1
      try clear hx160_2
      try clear p159
      try clear p160
      try clear p2
      try clear q159
      try clear q160
      obtain ⟨x7_2, x159000_2, u159000, rfl, HA, HK2, HO_159000, BK155, BK156, BK157, BK158, HB⟩ := hrel
      cases gk with
      | zero => exact absurd HA.out (by simp [spec_l03Put.l1])
      | succ k2 =>
       have H := HA.out
       clear HA
       simp only [spec_l03Put.l1] at H
       by_cases c42 : x7_2 < (l0_0.length : Int)
       ·rw [if_pos c42] at H
        have c42b0 : decide (x7_2 < (l0_0.length : Int)) = true := decide_eq_true c42
        have c42b1 : decide ((l0_0.length : Int) ≤ x7_2) = false := decide_eq_false (by omega)
        clear c42
        by_cases c43 : 0 ≤ x7_2
        ·rw [if_pos c43] at H
         have c43b0 : decide (0 ≤ x7_2) = true := decide_eq_true c43
         clear c43
         by_cases c44 : (Op.bytesLess a1_0.toList (((rd_T66 l0_0 x7_2).f0).toList)) = true
         ·rw [if_pos c44] at H
          have c44b0 : (Op.bytesLess a1_0.toList (((rd_T66 l0_0 x7_2).f0).toList)) = true := c44
          clear c44
          by_cases c45 : x159000_2.length < 3518437208883
          ·rw [if_pos c45] at H
           have LMc45 := Aside0.mk c45
           clear c45
           obtain ⟨y169, hy169⟩ : ∃ y_ : List (S66), y_ = (x159000_2 ++ [(⟨(rd_T66 l0_0 x7_2).f0, (rd_T66 l0_0 x7_2).f1, (rd_T66 l0_0 x7_2).f2⟩ : S66)]) := ⟨_, rfl⟩
           replace H : (spec_l03Put.l1 k2 (wrap64 (x7_2 + 1)) l0_0 a1_0 a1_1 a1_2 y169) = some r := by first | (rw [hy169]; with_reducible exact H) | (have H2_ := (Option.bind_some _ _).symm.trans H; rw [hy169]; with_reducible exact H2_) | (have H2_ := (Option.bind_some _ _).symm.trans H; with_reducible exact H2_) | with_reducible exact H | (rw [hy169]; exact H) | exact H
           have Ny169 := Aside0.mk hy169
           clear hy169
           have H' := Aside0.mk H
           clear H
           have hnb46 := NB155_156.out
           have hnc46 := NB156_155.out
           have hnb47 := NB155_157.out
           have hnc47 := NB157_155.out
           have hnb48 := NB155_158.out
           have hnc48 := NB158_155.out
           obtain ⟨hcz49_0, hfz49_0⟩ := zc1 BK155.out
           try go_wp2
           replace HO_159000 := am (Kd.R_drew HO_159000.out)
           replace BK155 := am (blk_drew BK155.out)
           replace BK156 := am (blk_drew BK156.out)
           replace BK157 := am (blk_drew BK157.out)
           replace BK158 := am (blk_drew BK158.out)
           replace HB := am (below_drew1 HB.out)
           have p167 : 0 ≤ (x7_2 : Int) := of_decide_eq_true (by first | (with_reducible assumption) | assumption)
           have q167 : x7_2 < (l0_0.length : Int) := of_decide_eq_true (by first | (with_reducible assumption) | assumption)
           obtain ⟨ad167, e167, hx167_0, hx167_1, hx167_2⟩ := at_T66 HR0_0.out x7_2 p167 q167
           have hw167_2 := hx167_2
           have hw167_1 := hx167_1
           have hw167_0 := hx167_0
           cases e167
           replace hx167_0 := (HB.out.cell (World.block_lt_of_cell? w _ hx167_0)).trans hx167_0
           replace hx167_1 := (HB.out.cell (World.block_lt_of_cell? w _ hx167_1)).trans hx167_1
           replace hx167_2 := (HB.out.cell (World.block_lt_of_cell? w _ hx167_2)).trans hx167_2
           replace p167 := eq_true p167
           replace q167 := eq_true q167
           refine start_ (n := 9) (S := fun w' => w'.cell? ⟨gb155, 0, none⟩ = some (.slice (some ad167) l0_0.length c0_0) ∧ w'.cell? ⟨gb156, 0, none⟩ = some (.string a1_0) ∧ w'.cell? ⟨gb156, 1, none⟩ = some (.string a1_1) ∧ w'.cell? ⟨gb156, 2, none⟩ = some (.int .i64 a1_2) ∧ w'.cell? (ad167.add ((x7_2).toNat * 3)) = some (.string ((rd_T66 l0_0 x7_2).f0)) ∧ w'.cell? ⟨(ad167.add ((x7_2).toNat * 3)).block, (ad167.add ((x7_2).toNat * 3)).off + 1, none⟩ = some (.string ((rd_T66 l0_0 x7_2).f1)) ∧ w'.cell? ⟨(ad167.add ((x7_2).toNat * 3)).block, (ad167.add ((x7_2).toNat * 3)).off + 2, none⟩ = some (.int .i64 ((rd_T66 l0_0 x7_2).f2))) (ds := []) #[false, false, false, false, false, false, false, false, false] (by kernel_rfl) rfl rfl ⟨ct BK155.out 0, ct BK156.out 0, ct BK156.out 1, ct BK156.out 2, ((HB.out.cell (World.block_lt_of_cell? w _ hw167_0)).trans hw167_0), ((HB.out.cell (World.block_lt_of_cell? w _ hw167_1)).trans hw167_1), ((HB.out.cell (World.block_lt_of_cell? w _ hw167_2)).trans hw167_2)⟩ (fun hHeld => ?_); refine with_tabW spec_l03Put.tab11 spec_l03Put.bits11 (fun HT_ HW_ => ?_)
           generalize wr.drew = w50 at HO_159000 BK155 BK156 BK157 BK158 HB hx167_0 hx167_1 hx167_2 hHeld ⊢
           refine pure_ (i := 0) (N := some 48) (v := ?_) (a' := ?_) #[true, false, false, false, false, false, false, false, false] rfl rfl (any_of HT_.out (by kernel_rfl)) (fun _ _ _ h => h) (Or.inl ⟨by rfl, ?_⟩) ?_ ?_
           rotate_left
           ·intro w'
            go_simp
            with_reducible rfl
           rotate_left
           ·simp only [Act.put, List.setIfInBounds_toArray, List.set_cons_zero, List.set_cons_succ, i64_w, i32_w]
            rfl
           refine pure_ (i := 2) (N := some 50) (v := ?_) (a' := ?_) #[true, false, true, false, false, false, false, false, false] rfl rfl (any_of HT_.out (by kernel_rfl)) (fun _ _ _ h => h) (Or.inl ⟨by rfl, ?_⟩) ?_ ?_
           rotate_left
           ·intro w'
            go_simp
            with_reducible rfl
           rotate_left
           ·simp only [Act.put, List.setIfInBounds_toArray, List.set_cons_zero, List.set_cons_succ, i64_w, i32_w]
            rfl
           refine pure_ (i := 6) (N := some 54) (v := ?_) (a' := ?_) #[true, false, true, false, false, false, true, false, false] rfl rfl (any_of HT_.out (by kernel_rfl)) (fun _ _ _ h => h) (Or.inl ⟨by rfl, ?_⟩) ?_ ?_
           rotate_left
           ·intro w'
            go_simp
            with_reducible rfl
           rotate_left
           ·simp only [Act.put, List.setIfInBounds_toArray, List.set_cons_zero, List.set_cons_succ, i64_w, i32_w]
            rfl
           refine take_ (i := 1) (N := some 49) (v := ?_) (a' := ?_) #[true, true, true, false, false, false, true, false, false] rfl rfl (take_ofW HT_.out HW_.out (by kernel_rfl)) (fun _ _ _ h => h) (Or.inl ⟨by rfl, ?_⟩) hHeld ?_ ?_
           rotate_left
           ·rintro w' ⟨s0, s1, s2, s3, s4, s5, s6⟩
            go_simp
            with_reducible rfl
           rotate_left
           ·simp only [Act.put, List.setIfInBounds_toArray, List.set_cons_zero, List.set_cons_succ, i64_w, i32_w]
            rfl
           refine pure_ (i := 3) (N := some 51) (v := ?_) (a' := ?_) #[true, true, true, true, false, false, true, false, false] rfl rfl (any_of HT_.out (by kernel_rfl)) (fun _ _ _ h => h) (Or.inl ⟨by rfl, ?_⟩) ?_ ?_
           rotate_left
           ·intro w'
            go_simp
            with_reducible rfl
           rotate_left
           ·simp only [Act.put, List.setIfInBounds_toArray, List.set_cons_zero, List.set_cons_succ, i64_w, i32_w]
            rfl
           refine pure_ (i := 4) (N := some 52) (v := ?_) (a' := ?_) #[true, true, true, true, true, false, true, false, false] rfl rfl (any_of HT_.out (by kernel_rfl)) (fun _ _ _ h => h) (Or.inl ⟨by rfl, ?_⟩) ?_ ?_
           rotate_left
           ·intro w'
            go_simp
            with_reducible rfl
           rotate_left
           ·simp only [Act.put, List.setIfInBounds_toArray, List.set_cons_zero, List.set_cons_succ, i64_w, i32_w]
            rfl
           refine take_ (i := 5) (N := some 53) (v := ?_) (a' := ?_) #[true, true, true, true, true, true, true, false, false] rfl rfl (take_ofW HT_.out HW_.out (by kernel_rfl)) (fun _ _ _ h => h) (Or.inl ⟨by rfl, ?_⟩) hHeld ?_ ?_
           rotate_left
           ·rintro w' ⟨s0, s1, s2, s3, s4, s5, s6⟩
            go_simp
            with_reducible rfl
           rotate_left
           ·simp only [Act.put, List.setIfInBounds_toArray, List.set_cons_zero, List.set_cons_succ, i64_w, i32_w]
            rfl
           refine take_ (i := 7) (N := some 55) (v := ?_) (a' := ?_) #[true, true, true, true, true, true, true, true, false] rfl rfl (take_ofW HT_.out HW_.out (by kernel_rfl)) (fun _ _ _ h => h) (Or.inl ⟨by rfl, ?_⟩) hHeld ?_ ?_
           rotate_left
           ·rintro w' ⟨s0, s1, s2, s3, s4, s5, s6⟩
            go_simp
            with_reducible rfl
           rotate_left
           ·simp only [Act.put, List.setIfInBounds_toArray, List.set_cons_zero, List.set_cons_succ, i64_w, i32_w]
            rfl
           refine pure_ (i := 8) (N := some 56) (v := ?_) (a' := ?_) #[true, true, true, true, true, true, true, true, true] rfl rfl (any_of HT_.out (by kernel_rfl)) (fun _ _ _ h => h) (Or.inl ⟨by rfl, ?_⟩) ?_ ?_
           rotate_left
           ·intro w'
            go_simp
            with_reducible rfl
           rotate_left
           ·simp only [Act.put, List.setIfInBounds_toArray, List.set_cons_zero, List.set_cons_succ, i64_w, i32_w]
            rfl
           refine done_ (done_of HT_.out (by kernel_rfl)) ?_
           try go_wp2
           replace HO_159000 := am (Kd.R_drew HO_159000.out)
           replace BK155 := am (blk_drew BK155.out)
           replace BK156 := am (blk_drew BK156.out)
           replace BK157 := am (blk_drew BK157.out)
           replace BK158 := am (blk_drew BK158.out)
           replace HB := am (below_drew1 HB.out)
           have p168 : 0 ≤ (x7_2 : Int) := of_decide_eq_true (by first | (with_reducible assumption) | assumption)
           have q168 : x7_2 < (l0_0.length : Int) := of_decide_eq_true (by first | (with_reducible assumption) | assumption)
           obtain ⟨ad168, e168, hx168_0, hx168_1, hx168_2⟩ := at_T66 HR0_0.out x7_2 p168 q168
           have hw168_2 := hx168_2
           have hw168_1 := hx168_1
           have hw168_0 := hx168_0
           obtain rfl : ad167 = ad168 := (by injection e168)
           replace hx168_0 := (HB.out.cell (World.block_lt_of_cell? w _ hx168_0)).trans hx168_0
           replace hx168_1 := (HB.out.cell (World.block_lt_of_cell? w _ hx168_1)).trans hx168_1
           replace hx168_2 := (HB.out.cell (World.block_lt_of_cell? w _ hx168_2)).trans hx168_2
           replace p168 := eq_true p168
           replace q168 := eq_true q168
           refine start_ (n := 11) (S := fun w' => w'.cell? ⟨gb158, 0, none⟩ = some (u159000) ∧ w'.cell? ⟨gb155, 0, none⟩ = some (.slice (some ad167) l0_0.length c0_0) ∧ w'.cell? (ad167.add ((x7_2).toNat * 3)) = some (.string ((rd_T66 l0_0 x7_2).f0)) ∧ w'.cell? ⟨(ad167.add ((x7_2).toNat * 3)).block, (ad167.add ((x7_2).toNat * 3)).off + 1, none⟩ = some (.string ((rd_T66 l0_0 x7_2).f1)) ∧ w'.cell? ⟨(ad167.add ((x7_2).toNat * 3)).block, (ad167.add ((x7_2).toNat * 3)).off + 2, none⟩ = some (.int .i64 ((rd_T66 l0_0 x7_2).f2))) (ds := [10]) #[false, false, false, false, false, false, false, false, false, false, false] (by kernel_rfl) rfl rfl ⟨ct BK158.out 0, ct BK155.out 0, ((HB.out.cell (World.block_lt_of_cell? w _ hw168_0)).trans hw168_0), ((HB.out.cell (World.block_lt_of_cell? w _ hw168_1)).trans hw168_1), ((HB.out.cell (World.block_lt_of_cell? w _ hw168_2)).trans hw168_2)⟩ (fun hHeld => ?_); refine with_tabW spec_l03Put.tab12 spec_l03Put.bits12 (fun HT_ HW_ => ?_)
           generalize w50.drew = w51 at HO_159000 BK155 BK156 BK157 BK158 HB hx168_0 hx168_1 hx168_2 hHeld ⊢
           refine pure_ (i := 0) (N := some 57) (v := ?_) (a' := ?_) #[true, false, false, false, false, false, false, false, false, false, false] rfl rfl (any_of HT_.out (by kernel_rfl)) (fun _ _ _ h => h) (Or.inl ⟨by rfl, ?_⟩) ?_ ?_
           rotate_left
           ·intro w'
            go_simp
            with_reducible rfl
           rotate_left
           ·simp only [Act.put, List.setIfInBounds_toArray, List.set_cons_zero, List.set_cons_succ, i64_w, i32_w]
            rfl
           refine pure_ (i := 2) (N := some 59) (v := ?_) (a' := ?_) #[true, false, true, false, false, false, false, false, false, false, false] rfl rfl (any_of HT_.out (by kernel_rfl)) (fun _ _ _ h => h) (Or.inl ⟨by rfl, ?_⟩) ?_ ?_
           rotate_left
           ·intro w'
            go_simp
            with_reducible rfl
           rotate_left
           ·simp only [Act.put, List.setIfInBounds_toArray, List.set_cons_zero, List.set_cons_succ, i64_w, i32_w]
            rfl
           refine pure_ (i := 4) (N := some 61) (v := ?_) (a' := ?_) #[true, false, true, false, true, false, false, false, false, false, false] rfl rfl (any_of HT_.out (by kernel_rfl)) (fun _ _ _ h => h) (Or.inl ⟨by rfl, ?_⟩) ?_ ?_
           rotate_left
           ·intro w'
            go_simp
            with_reducible rfl
           rotate_left
           ·simp only [Act.put, List.setIfInBounds_toArray, List.set_cons_zero, List.set_cons_succ, i64_w, i32_w]
            rfl
           refine take_ (i := 1) (N := some 58) (v := ?_) (a' := ?_) #[true, true, true, false, true, false, false, false, false, false, false] rfl rfl (take_ofW HT_.out HW_.out (by kernel_rfl)) (fun _ _ _ h => h) (Or.inl ⟨by rfl, ?_⟩) hHeld ?_ ?_
           rotate_left
           ·rintro w' ⟨s0, s1, s2, s3, s4⟩
            go_simp
            with_reducible rfl
           rotate_left
           ·simp only [Act.put, List.setIfInBounds_toArray, List.set_cons_zero, List.set_cons_succ, i64_w, i32_w]
            rfl
           refine take_ (i := 3) (N := some 60) (v := ?_) (a' := ?_) #[true, true, true, true, true, false, false, false, false, false, false] rfl rfl (take_ofW HT_.out HW_.out (by kernel_rfl)) (fun _ _ _ h => h) (Or.inl ⟨by rfl, ?_⟩) hHeld ?_ ?_
           rotate_left
           ·rintro w' ⟨s0, s1, s2, s3, s4⟩
            go_simp
            with_reducible rfl
           rotate_left
           ·simp only [Act.put, List.setIfInBounds_toArray, List.set_cons_zero, List.set_cons_succ, i64_w, i32_w]
            rfl
           refine pure_ (i := 5) (N := some 62) (v := ?_) (a' := ?_) #[true, true, true, true, true, true, false, false, false, false, false] rfl rfl (any_of HT_.out (by kernel_rfl)) (fun _ _ _ h => h) (Or.inl ⟨by rfl, ?_⟩) ?_ ?_
           rotate_left
           ·intro w'
            go_simp
            with_reducible rfl
           rotate_left
           ·simp only [Act.put, List.setIfInBounds_toArray, List.set_cons_zero, List.set_cons_succ, i64_w, i32_w]
            rfl
           refine take_ (i := 6) (N := some 63) (v := ?_) (a' := ?_) #[true, true, true, true, true, true, true, false, false, false, false] rfl rfl (take_ofW HT_.out HW_.out (by kernel_rfl)) (fun _ _ _ h => h) (Or.inl ⟨by rfl, ?_⟩) hHeld ?_ ?_
           rotate_left
           ·rintro w' ⟨s0, s1, s2, s3, s4⟩
            go_simp
            with_reducible rfl
           rotate_left
           ·simp only [Act.put, List.setIfInBounds_toArray, List.set_cons_zero, List.set_cons_succ, i64_w, i32_w]
            rfl
           refine one_ (i := 7) (N := some 64) #[true, true, true, true, true, true, true, true, false, false, false] rfl rfl (one_of HT_.out (by kernel_rfl)) (by decide) (fun K hK => ?_)
           refine value_ (w1 := ?_) (v := ?_) (by rfl) rfl ?_ ?_
           rotate_left 2
           ·go_simp
            constructor
            ·rfl
            ·rfl
           refine hK.out _ _ ⟨(blk_cell (blk_alloc BK158.out _) 0).trans rfl, (blk_cell (blk_alloc BK155.out _) 0).trans rfl, (World.cell?_alloc_lt _ _ _ (World.block_lt_of_cell? _ _ (((HB.out.cell (World.block_lt_of_cell? w _ hw168_0)).trans hw168_0)))).trans (((HB.out.cell (World.block_lt_of_cell? w _ hw168_0)).trans hw168_0)), (World.cell?_alloc_lt _ _ _ (World.block_lt_of_cell? _ _ (((HB.out.cell (World.block_lt_of_cell? w _ hw168_1)).trans hw168_1)))).trans (((HB.out.cell (World.block_lt_of_cell? w _ hw168_1)).trans hw168_1)), (World.cell?_alloc_lt _ _ _ (World.block_lt_of_cell? _ _ (((HB.out.cell (World.block_lt_of_cell? w _ hw168_2)).trans hw168_2)))).trans (((HB.out.cell (World.block_lt_of_cell? w _ hw168_2)).trans hw168_2))⟩ (fun hHeld => ?_)
           clear hK K
           refine norm_ (a' := ?_) ?_ ?_
           rotate_left
           ·show Act.put _ (some 64) _ = _
            simp only [Act.put, List.setIfInBounds_toArray, List.set_cons_zero, List.set_cons_succ, i64_w, i32_w]
            rfl
           refine one_ (i := 8) (N := some 65) #[true, true, true, true, true, true, true, true, true, false, false] rfl rfl (one_of HT_.out (by kernel_rfl)) (by decide) (fun K hK => ?_)
           refine Kd.R_append_step k66 (w0 := w) w.heap.size (by rfl) (.tmp 58) (.tmp 64) 29 66 (.agg #[(.string ⟨#[]⟩), (.string ⟨#[]⟩), (.int .i64 0)]) 40 rfl Try.underlying29 info66 rfl (by decide) (by omega) u159000 x159000_2 (⟨(rd_T66 l0_0 x7_2).f0, (rd_T66 l0_0 x7_2).f1, (rd_T66 l0_0 x7_2).f2⟩ : S66) [.string ((rd_T66 l0_0 x7_2).f0), .string ((rd_T66 l0_0 x7_2).f1), .int .i64 ((rd_T66 l0_0 x7_2).f2)] (fun k_ => k_ ≠ gb156) (fun _ => False) rfl rfl ?aP (fun _ hk => hk.elim) ?aF ?aO ?aB ?aS ?aL ?_
           (case aP => exact k66_mkM _ _ _ (⟨(rd_T66 l0_0 x7_2).f0, (rd_T66 l0_0 x7_2).f1, (rd_T66 l0_0 x7_2).f2⟩ : S66))
           (case aB => exact (zb4 HB.out GE155.out GE156.out GE157.out GE158.out))
           (case aF => exact (fun k_ hk => Kd.freshB (g := gb156) (o := .cells #[.string a1_0, .string a1_1, .int .i64 a1_2] 66 (0, 0)) (kx BK156.out) k_ hk))
           (case aO => exact (rx HO_159000.out))
           (case aS => exact (below_size (zb4 HB.out GE155.out GE156.out GE157.out GE158.out)))
           (case aL => have := LMc45.out; omega)
           intro v170 w52 ho hb hg hat
           rw [← Ny169.out] at ho
           have HO171 := am (ho)
           replace BK155 := am (blk_grown (g := gb155) (o := .cells #[.slice (some ad167) l0_0.length c0_0] 31 (0, 0)) (kx BK155.out) hg (Kd.R_ne HO_159000.out BK155.out (by decide)))
           replace BK156 := am (blk_grown (g := gb156) (o := .cells #[.string a1_0, .string a1_1, .int .i64 a1_2] 66 (0, 0)) (kx BK156.out) hg (Kd.R_away HO_159000.out (fun _ hk => hk)))
           replace BK157 := am (blk_grown (g := gb157) (o := .cells #[.slice none 0 0] 31 (0, 0)) (kx BK157.out) hg (Kd.R_ne HO_159000.out BK157.out (by decide)))
           replace BK158 := am (blk_grown (g := gb158) (o := .cells #[u159000] 31 (0, 0)) (kx BK158.out) hg (Kd.R_ne HO_159000.out BK158.out (by decide)))
           replace HB := am (hb)
           clear HO_159000 ho hb hg hat
           obtain ⟨Ao53, co53, eo53⟩ := Kd.R_slice HO171.out
           (first | subst eo53 | (injection eo53 with f1_ f2_ f3_; have f4_ := f1_.symm; have f5_ := f3_.symm; clear f1_ f2_ f3_; subst f4_; subst f5_))
           refine hK.out _ _ ⟨ct BK158.out 0, ct BK155.out 0, ((HB.out.cell (World.block_lt_of_cell? w _ hw168_0)).trans hw168_0), ((HB.out.cell (World.block_lt_of_cell? w _ hw168_1)).trans hw168_1), ((HB.out.cell (World.block_lt_of_cell? w _ hw168_2)).trans hw168_2)⟩ (fun hHeld => ?_)
           clear hK K
           refine norm_ (a' := ?_) ?_ ?_
           rotate_left
           ·show Act.put _ (some 65) _ = _
            simp only [Act.put, List.setIfInBounds_toArray, List.set_cons_zero, List.set_cons_succ, i64_w, i32_w]
            rfl
           refine pure_ (i := 9) (N := some 66) (v := ?_) (a' := ?_) #[true, true, true, true, true, true, true, true, true, true, false] rfl rfl (any_of HT_.out (by kernel_rfl)) (fun _ _ _ h => h) (Or.inl ⟨by rfl, ?_⟩) ?_ ?_
           rotate_left
           ·intro w'
            go_simp
            with_reducible rfl
           rotate_left
           ·simp only [Act.put, List.setIfInBounds_toArray, List.set_cons_zero, List.set_cons_succ, i64_w, i32_w]
            rfl
           refine last_ (i := 10) (N := none) #[true, true, true, true, true, true, true, true, true, true, true] rfl rfl (one_of HT_.out (by kernel_rfl)) (by decide) (fun K hK => ?_)
           have hs54 : w52.cell? ⟨gb158, 0, none⟩ = some (u159000) := ct BK158.out 0
           have hfs54 := blk_frozen BK158.out 0
           have hns54_0 := NB155_158.out
           have hns54_1 := NB156_158.out
           have hns54_2 := NB157_158.out
           have hms54_0 := NB158_155.out
           have hms54_1 := NB158_156.out
           have hms54_2 := NB158_157.out
           refine skip_ (w1 := ?_) (by rfl) rfl ?_ ?_
           rotate_left
           ·go_simp
            rfl
           refine hK.out _ _ ?_
           clear hK K
           refine done_ (done_of HT_.out (by kernel_rfl)) ?_
           try go_wp2
           go_roundg k2
           case measure => have := HK1.out; have := HK2.out; omega
           case rel => exact ⟨(wrap64 (x7_2 + 1)), (y169), (.slice Ao53 y169.length co53), (by first | rfl | (simp; done) | (simp [*]; done)), H', ⟨by have := HK1.out; have := HK2.out; omega⟩, ⟨rx (Kd.R_mono (Kd.R_far (p := ⟨gb158, 0, none⟩) (Kd.R_types HO171.out BK158.out (by decide)) (fun _ hk => hk.2) (.slice Ao53 y169.length co53)) (fun _ hk => hk.1))⟩, ⟨zf1 BK155.out NB155_158.out⟩, ⟨zf1 BK156.out NB156_158.out⟩, ⟨zf1 BK157.out NB157_158.out⟩, ⟨by (with_reducible repeat (first | refine blk_drewN ?_ _ | refine blk_drew ?_ | refine blk_alloc ?_ _)); refine blk_put (cs := #[u159000]) ?_ 0 _ rfl; (with_reducible repeat (first | refine blk_drewN ?_ _ | refine blk_drew ?_ | refine blk_alloc ?_ _)); exact BK158.out⟩, ⟨zb4 HB.out GE155.out GE156.out GE157.out GE158.out⟩⟩
          ·rw [if_neg c45] at H
           exact absurd H (by simp)
         ·rw [if_neg c44] at H
          have c44b0 : (Op.bytesLess a1_0.toList (((rd_T66 l0_0 x7_2).f0).toList)) = false := by simpa using c44
          clear c44
          have H' := Aside0.mk H
          clear H
          have hnb55 := NB155_156.out
          have hnc55 := NB156_155.out
          have hnb56 := NB155_157.out
          have hnc56 := NB157_155.out
          have hnb57 := NB155_158.out
          have hnc57 := NB158_155.out
          obtain ⟨hcz58_0, hfz58_0⟩ := zc1 BK155.out
          try go_wp2
          replace HO_159000 := am (Kd.R_drew HO_159000.out)
          replace BK155 := am (blk_drew BK155.out)
          replace BK156 := am (blk_drew BK156.out)
          replace BK157 := am (blk_drew BK157.out)
          replace BK158 := am (blk_drew BK158.out)
          replace HB := am (below_drew1 HB.out)
          have p167 : 0 ≤ (x7_2 : Int) := of_decide_eq_true (by first | (with_reducible assumption) | assumption)
          have q167 : x7_2 < (l0_0.length : Int) := of_decide_eq_true (by first | (with_reducible assumption) | assumption)
          obtain ⟨ad167, e167, hx167_0, hx167_1, hx167_2⟩ := at_T66 HR0_0.out x7_2 p167 q167
          have hw167_2 := hx167_2
          have hw167_1 := hx167_1
          have hw167_0 := hx167_0
          cases e167
          replace hx167_0 := (HB.out.cell (World.block_lt_of_cell? w _ hx167_0)).trans hx167_0
          replace hx167_1 := (HB.out.cell (World.block_lt_of_cell? w _ hx167_1)).trans hx167_1
          replace hx167_2 := (HB.out.cell (World.block_lt_of_cell? w _ hx167_2)).trans hx167_2
          replace p167 := eq_true p167
          replace q167 := eq_true q167
          refine start_ (n := 9) (S := fun w' => w'.cell? ⟨gb155, 0, none⟩ = some (.slice (some ad167) l0_0.length c0_0) ∧ w'.cell? ⟨gb156, 0, none⟩ = some (.string a1_0) ∧ w'.cell? ⟨gb156, 1, none⟩ = some (.string a1_1) ∧ w'.cell? ⟨gb156, 2, none⟩ = some (.int .i64 a1_2) ∧ w'.cell? (ad167.add ((x7_2).toNat * 3)) = some (.string ((rd_T66 l0_0 x7_2).f0)) ∧ w'.cell? ⟨(ad167.add ((x7_2).toNat * 3)).block, (ad167.add ((x7_2).toNat * 3)).off + 1, none⟩ = some (.string ((rd_T66 l0_0 x7_2).f1)) ∧ w'.cell? ⟨(ad167.add ((x7_2).toNat * 3)).block, (ad167.add ((x7_2).toNat * 3)).off + 2, none⟩ = some (.int .i64 ((rd_T66 l0_0 x7_2).f2))) (ds := []) #[false, false, false, false, false, false, false, false, false] (by kernel_rfl) rfl rfl ⟨ct BK155.out 0, ct BK156.out 0, ct BK156.out 1, ct BK156.out 2, ((HB.out.cell (World.block_lt_of_cell? w _ hw167_0)).trans hw167_0), ((HB.out.cell (World.block_lt_of_cell? w _ hw167_1)).trans hw167_1), ((HB.out.cell (World.block_lt_of_cell? w _ hw167_2)).trans hw167_2)⟩ (fun hHeld => ?_); refine with_tabW spec_l03Put.tab11 spec_l03Put.bits11 (fun HT_ HW_ => ?_)
          generalize wr.drew = w59 at HO_159000 BK155 BK156 BK157 BK158 HB hx167_0 hx167_1 hx167_2 hHeld ⊢
          refine pure_ (i := 0) (N := some 48) (v := ?_) (a' := ?_) #[true, false, false, false, false, false, false, false, false] rfl rfl (any_of HT_.out (by kernel_rfl)) (fun _ _ _ h => h) (Or.inl ⟨by rfl, ?_⟩) ?_ ?_
          rotate_left
          ·intro w'
           go_simp
           with_reducible rfl
          rotate_left
          ·simp only [Act.put, List.setIfInBounds_toArray, List.set_cons_zero, List.set_cons_succ, i64_w, i32_w]
           rfl
          refine pure_ (i := 2) (N := some 50) (v := ?_) (a' := ?_) #[true, false, true, false, false, false, false, false, false] rfl rfl (any_of HT_.out (by kernel_rfl)) (fun _ _ _ h => h) (Or.inl ⟨by rfl, ?_⟩) ?_ ?_
          rotate_left
          ·intro w'
           go_simp
           with_reducible rfl
          rotate_left
          ·simp only [Act.put, List.setIfInBounds_toArray, List.set_cons_zero, List.set_cons_succ, i64_w, i32_w]
           rfl
          refine pure_ (i := 6) (N := some 54) (v := ?_) (a' := ?_) #[true, false, true, false, false, false, true, false, false] rfl rfl (any_of HT_.out (by kernel_rfl)) (fun _ _ _ h => h) (Or.inl ⟨by rfl, ?_⟩) ?_ ?_
          rotate_left
          ·intro w'
           go_simp
           with_reducible rfl
          rotate_left
          ·simp only [Act.put, List.setIfInBounds_toArray, List.set_cons_zero, List.set_cons_succ, i64_w, i32_w]
           rfl
          refine take_ (i := 1) (N := some 49) (v := ?_) (a' := ?_) #[true, true, true, false, false, false, true, false, false] rfl rfl (take_ofW HT_.out HW_.out (by kernel_rfl)) (fun _ _ _ h => h) (Or.inl ⟨by rfl, ?_⟩) hHeld ?_ ?_
          rotate_left
          ·rintro w' ⟨s0, s1, s2, s3, s4, s5, s6⟩
           go_simp
           with_reducible rfl
          rotate_left
          ·simp only [Act.put, List.setIfInBounds_toArray, List.set_cons_zero, List.set_cons_succ, i64_w, i32_w]
           rfl
          refine pure_ (i := 3) (N := some 51) (v := ?_) (a' := ?_) #[true, true, true, true, false, false, true, false, false] rfl rfl (any_of HT_.out (by kernel_rfl)) (fun _ _ _ h => h) (Or.inl ⟨by rfl, ?_⟩) ?_ ?_
          rotate_left
          ·intro w'
           go_simp
           with_reducible rfl
          rotate_left
          ·simp only [Act.put, List.setIfInBounds_toArray, List.set_cons_zero, List.set_cons_succ, i64_w, i32_w]
           rfl
          refine pure_ (i := 4) (N := some 52) (v := ?_) (a' := ?_) #[true, true, true, true, true, false, true, false, false] rfl rfl (any_of HT_.out (by kernel_rfl)) (fun _ _ _ h => h) (Or.inl ⟨by rfl, ?_⟩) ?_ ?_
          rotate_left
          ·intro w'
           go_simp
           with_reducible rfl
          rotate_left
          ·simp only [Act.put, List.setIfInBounds_toArray, List.set_cons_zero, List.set_cons_succ, i64_w, i32_w]
           rfl
          refine take_ (i := 5) (N := some 53) (v := ?_) (a' := ?_) #[true, true, true, true, true, true, true, false, false] rfl rfl (take_ofW HT_.out HW_.out (by kernel_rfl)) (fun _ _ _ h => h) (Or.inl ⟨by rfl, ?_⟩) hHeld ?_ ?_
          rotate_left
          ·rintro w' ⟨s0, s1, s2, s3, s4, s5, s6⟩
           go_simp
           with_reducible rfl
          rotate_left
          ·simp only [Act.put, List.setIfInBounds_toArray, List.set_cons_zero, List.set_cons_succ, i64_w, i32_w]
           rfl
          refine take_ (i := 7) (N := some 55) (v := ?_) (a' := ?_) #[true, true, true, true, true, true, true, true, false] rfl rfl (take_ofW HT_.out HW_.out (by kernel_rfl)) (fun _ _ _ h => h) (Or.inl ⟨by rfl, ?_⟩) hHeld ?_ ?_
          rotate_left
          ·rintro w' ⟨s0, s1, s2, s3, s4, s5, s6⟩
           go_simp
           with_reducible rfl
          rotate_left
          ·simp only [Act.put, List.setIfInBounds_toArray, List.set_cons_zero, List.set_cons_succ, i64_w, i32_w]
           rfl
          refine pure_ (i := 8) (N := some 56) (v := ?_) (a' := ?_) #[true, true, true, true, true, true, true, true, true] rfl rfl (any_of HT_.out (by kernel_rfl)) (fun _ _ _ h => h) (Or.inl ⟨by rfl, ?_⟩) ?_ ?_
          rotate_left
          ·intro w'
           go_simp
           with_reducible rfl
          rotate_left
          ·simp only [Act.put, List.setIfInBounds_toArray, List.set_cons_zero, List.set_cons_succ, i64_w, i32_w]
           rfl
          refine done_ (done_of HT_.out (by kernel_rfl)) ?_
          try go_wp2
          go_roundg k2
          case measure => have := HK1.out; have := HK2.out; omega
          case rel => exact ⟨(wrap64 (x7_2 + 1)), (x159000_2), (u159000), (by first | rfl | (simp; done) | (simp [*]; done)), H', ⟨by have := HK1.out; have := HK2.out; omega⟩, ⟨rx HO_159000.out⟩, ⟨kx BK155.out⟩, ⟨kx BK156.out⟩, ⟨kx BK157.out⟩, ⟨kx BK158.out⟩, ⟨zb4 HB.out GE155.out GE156.out GE157.out GE158.out⟩⟩
        ·rw [if_neg c43] at H
         exact absurd H (by simp)
       ·rw [if_neg c42] at H
        have c42b0 : decide (x7_2 < (l0_0.length : Int)) = false := decide_eq_false c42
        have c42b1 : decide ((l0_0.length : Int) ≤ x7_2) = true := decide_eq_true (by omega)
        clear c42
        obtain rfl := Option.some.inj H
        have hnb60 := NB155_156.out
        have hnc60 := NB156_155.out
        have hnb61 := NB155_157.out
        have hnc61 := NB157_155.out
        have hnb62 := NB155_158.out
        have hnc62 := NB158_155.out
        obtain ⟨hcz63_0, hfz63_0⟩ := zc1 BK155.out
        have hnb64 := NB158_156.out
        have hnc64 := NB156_158.out
        have hnb65 := NB158_157.out
        have hnc65 := NB157_158.out
        obtain ⟨hcz66_0, hfz66_0⟩ := zc1 BK158.out
        obtain ⟨Ao67, co67, eo67⟩ := Kd.R_slice HO_159000.out
        subst eo67
        have hnb68 := NB157_156.out
        have hnc68 := NB156_157.out
        obtain ⟨hcz69_0, hfz69_0⟩ := zc1 BK157.out
        go_wp2
        refine bodyPost_ret (results_cell_row rfl _ _ gb157 31 #[.slice Ao67 x159000_2.length co67] (0, 0) _ rfl (by (with_reducible repeat (first | refine blk_drewN ?_ _ | refine blk_drew ?_ | refine blk_alloc ?_ _)); refine blk_put (cs := #[.slice none 0 0]) ?_ 0 _ rfl; (with_reducible repeat (first | refine blk_drewN ?_ _ | refine blk_drew ?_ | refine blk_alloc ?_ _)); exact BK157.out) Try.underlying31 rfl (by kernel_rfl)) rfl ?_
        exact ⟨_, by first | rfl | (simp [errW_none, errW_some] <;> rfl) | (simp [*, errW_none, errW_some] <;> rfl), rx (Kd.R_mono (Kd.R_far (p := ⟨gb157, 0, none⟩) (Kd.R_types HO_159000.out BK157.out (by decide)) (fun _ hk => hk.2) (.slice Ao67 x159000_2.length co67)) (fun _ hk => trivial)), zb4 HB.out GE155.out GE156.out GE157.out GE158.out⟩
    ·rw [if_neg c29] at H
     exact absurd H (by simp)

end Go.Proofs.Ytklbkkoojkmjbaa.QFnExactDoActs
