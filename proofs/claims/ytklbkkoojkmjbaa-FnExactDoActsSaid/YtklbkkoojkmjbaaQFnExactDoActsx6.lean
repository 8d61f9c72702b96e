/- Written by the kit's print.py, called by our own print2.sh with one import more; not by print.sh. -/
import Derived.Test.YtklbkkoojkmjbaaQFnExactDoActsx0
namespace Go.Proofs.Ytklbkkoojkmjbaa.QFnExactDoActs
open Go.RowKit Go.Proofs.YtklbkkoojkmjbaaW.PrintWords Go.Proofs.YtklbkkoojkmjbaaW.PrintLast Go.Proofs.YtklbkkoojkmjbaaW.PrintMore
attribute [local go_sem] max2_int min2_int max_two min_two max_three min_three max_four min_four   -- for this text's walks alone
open Go.Proofs.Ytklbkkoojkmjbaa.Short
set_option linter.unusedVariables false
set_option linter.unusedSimpArgs false

/-! ### spec_l03Without: function 36 -/
def spec_l03Without.l0 : Nat → ByteArray → Int → List (S66) → List (S66) → Option ((List (S66)))
 | 0, _, _, _, _ => none
 | k + 1, x1, x6, x173000, x175000 => if x6 < (x173000.length : Int) then (if 0 ≤ x6 then (if ((rd_T66 x173000 x6).f0).toList = x1.toList then (spec_l03Without.l0 k x1 (wrap64 (x6 + 1)) x173000 x175000) else (if x175000.length < 3518437208883 then (spec_l03Without.l0 k x1 (wrap64 (x6 + 1)) x173000 (x175000 ++ [(⟨(rd_T66 x173000 x6).f0, (rd_T66 x173000 x6).f1, (rd_T66 x173000 x6).f2⟩ : S66)])) else (none))) else (none)) else (some x175000)
def spec_l03Without.f (k : Nat) (l0_0 : List (S66)) (a1 : ByteArray) : Option ((List (S66))) := spec_l03Without.l0 k a1 0 l0_0 ([] : List (S66))
theorem spec_l03Without.mono_l : ∀ k, (∀ y0 y1 y2 y3, LeO (spec_l03Without.l0 k y0 y1 y2 y3) (spec_l03Without.l0 (k + 1) y0 y1 y2 y3))
 | 0 => fun _ _ _ _ r h => by simp [spec_l03Without.l0] at h
 | k + 1 => by
  have ih0 := spec_l03Without.mono_l k
  ·intro y0 y1 y2 y3
   unfold spec_l03Without.l0
   repeat' first
   | (with_reducible exact ih0 _ _ _ _)
   | (with_reducible exact LeO.refl _)
   | (with_reducible exact LeO.none _)
   | (with_reducible refine LeO.ite ?_ ?_)
   | (with_reducible refine LeO.bind ?_ (fun _ => ?_))
   | exact ih0 _ _ _ _
   | exact LeO.none _
   | refine LeO.ite ?_ ?_
   | refine LeO.bind ?_ (fun _ => ?_)
theorem spec_l03Without.mono : ∀ a0 a1 k, LeO (spec_l03Without.f k a0 a1) (spec_l03Without.f (k + 1) a0 a1) := by
 intro a0 a1 k
 have ih0 := spec_l03Without.mono_l k
 unfold spec_l03Without.f
 repeat' first
   | (with_reducible exact ih0 _ _ _ _)
   | (with_reducible exact LeO.refl _)
   | (with_reducible exact LeO.none _)
   | (with_reducible refine LeO.ite ?_ ?_)
   | (with_reducible refine LeO.bind ?_ (fun _ => ?_))
   | exact ih0 _ _ _ _
   | exact LeO.none _
   | refine LeO.ite ?_ ?_
   | refine LeO.bind ?_ (fun _ => ?_)
def spec_l03Without.T6 : Bool × List (List Nat × List Nat) := (true, [([], []), ([0], [0]), ([], []), ([2], [2]), ([], []), ([3, 4], [3, 4]), ([5], [5]), ([6], [6]), ([1, 7], [1, 7]), ([0, 1, 2, 3, 4, 5, 6, 7, 8], []), ([9, 8, 8, 0, 1, 2, 3, 4, 5, 6, 7, 8], [8, 9])])
def spec_l03Without.B6 : List Nat := [0, 1, 0, 4, 0, 28, 60, 124, 255, 511, 1023]
theorem spec_l03Without.tab6 : rtab .any (opsOf Try.f36 6) = spec_l03Without.T6 := by kernel_rfl
theorem spec_l03Without.bits6 : waitsOk spec_l03Without.T6.2 spec_l03Without.B6 = true := by kernel_rfl
set_option maxHeartbeats 8000000 in
set_option maxRecDepth 100000 in
theorem spec_l03Without.calls (k : Nat) (A0_0 : Option Addr) (c0_0 : Nat) (l0_0 : List (S66)) (a1 : ByteArray) (r : List (S66)) (w : World) (hr0_0 : Kd.C k66 w A0_0 l0_0.length l0_0) (hc0_0 : l0_0.length ≤ c0_0) (h : spec_l03Without.f k l0_0 a1 = some r) :
  Calls Try.prog 36 #[.agg #[.slice A0_0 l0_0.length c0_0], .string a1] w fun e w' => ∃ v0_ : Value, e = .returned (.agg #[v0_]) ∧ Kd.R k66 66 w' w.heap.size (fun _ => True) v0_ r ∧ Below w.heap.size w w' := by
 have hu31 := Try.underlying31
 have hu66 := Try.underlying66
 have HR0_0 := Aside0.mk hr0_0
 have HC0_0 := Aside0.mk hc0_0
 clear hr0_0 hc0_0
 have HB := Aside0.mk (Below.refl w.heap.size w)
 have H : (spec_l03Without.l0 k a1 0 l0_0 ([] : List (S66))) = some r := h
 clear h
 have H' := Aside0.mk H
 clear H
 go_enter Try.func36, Try.ntmps36
 go_wp2_with (first | ((with_reducible refine gate_dst (N := 2) rfl ?_); refine box_event ?hg (N := 2) ?hd (cs := #[.slice A0_0 l0_0.length c0_0]) (t := 31) ?hr ?_; (case hd => rfl); (case hg => rfl); (case hr => first | (go_simp; done) | (go_simp; rfl)); intro gb172 hg w3 hbox hb; have BK172 := am (hbox); have GW172 := zge hg (zb0 HB.out); have GE172 := zge hg (zb0 HB.out); replace HB := am (below_step (zb0 HB.out) hb); clear hb hbox hg) | ((with_reducible refine gate_dst (N := 4) rfl ?_); refine box_event ?hg (N := 4) ?hd (cs := #[.slice none 0 0]) (t := 31) ?hr ?_; (case hd => rfl); (case hg => rfl); (case hr => first | (go_simp; done) | (go_simp; rfl)); intro gb173 hg w4 hbox hb; have BK173 := am (hbox); have GW173 := zge hg (zb1 HB.out GE172.out); have GE173 := zge hg (zb1 HB.out GE172.out); have NB172_173 := znl hg (kx BK172.out); have NB173_172 := zng hg (kx BK172.out); replace BK172 := am (bb hb (kx BK172.out)); replace HB := am (below_step (zb1 HB.out GE172.out) hb); clear hb hbox hg) | ((with_reducible refine gate_dst (N := 5) rfl ?_); refine box_event ?hg (N := 5) ?hd (cs := #[.slice none 0 0]) (t := 31) ?hr ?_; (case hd => rfl); (case hg => rfl); (case hr => first | (go_simp; done) | (go_simp; rfl)); intro gb174 hg w5 hbox hb; have BK174 := am (hbox); have GW174 := zge hg (zb2 HB.out GE172.out GE173.out); have GE174 := zge hg (zb2 HB.out GE172.out GE173.out); have NB172_174 := znl hg (kx BK172.out); have NB174_172 := zng hg (kx BK172.out); have NB173_174 := znl hg (kx BK173.out); have NB174_173 := zng hg (kx BK173.out); replace BK172 := am (bb hb (kx BK172.out)); replace BK173 := am (bb hb (kx BK173.out)); replace HB := am (below_step (zb2 HB.out GE172.out GE173.out) hb); clear hb hbox hg; have hnb6 := NB174_172.out; have hnc6 := NB172_174.out; have hnb7 := NB174_173.out; have hnc7 := NB173_174.out; obtain ⟨hcz8_0, hfz8_0⟩ := zc1 BK174.out))
 go_loopg [6] k (fun kq v6 w' => ∃ (x6_1 : Int) (x175000_1 : List (S66)) (u175000 : Value), v6 = .int .i64 x6_1 ∧ Aside0 (spec_l03Without.l0 kq a1 x6_1 l0_0 x175000_1 = some r) ∧ Aside0 (kq ≤ k) ∧ Aside0 (Kd.R k66 66 w' w.heap.size (fun _ => True) u175000 x175000_1) ∧ Aside0 (w'.heap[gb172]? = some (.cells #[(.slice A0_0 l0_0.length c0_0)] 31 (0, 0))) ∧ Aside0 (w'.heap[gb173]? = some (.cells #[(.slice none 0 0)] 31 (0, 0))) ∧ Aside0 (w'.heap[gb174]? = some (.cells #[u175000] 31 (0, 0))) ∧ Aside0 (Below w.heap.size w w'))
 case atStart => exact ⟨(0), (([] : List (S66))), (.slice none 0 0), (by first | rfl | (simp; done) | (simp [*]; done)), H', ⟨Nat.le_refl _⟩, ⟨by first | exact Kd.R_nil _ _ _ _ _ | exact Kd.N_nil _ _ _ _ _ | exact Kd.V_nil _ _ _ _ _ | exact Kd.Q_nil _ _ _ _ _ | exact Kd.S_nil _ _ _ _ _⟩, ⟨zf1 BK172.out NB172_174.out⟩, ⟨zf1 BK173.out NB173_174.out⟩, ⟨by (with_reducible repeat (first | refine blk_drewN ?_ _ | refine blk_drew ?_ | refine blk_alloc ?_ _)); refine blk_put (cs := #[.slice none 0 0]) ?_ 0 _ rfl; (with_reducible repeat (first | refine blk_drewN ?_ _ | refine blk_drew ?_ | refine blk_alloc ?_ _)); exact BK174.out⟩, ⟨zb3 HB.out GE172.out GE173.out GE174.out⟩⟩
 case round =>
  clear H'
  try clear p2
  try clear c3
  try clear c6
  try clear c7
  try clear hcz8_0
  try clear hfz8_0
  obtain ⟨x6_1, x175000_1, u175000, rfl, HA, HK1, HO_175000, BK172, BK173, BK174, HB⟩ := hrel
  cases gk with
  | zero => exact absurd HA.out (by simp [spec_l03Without.l0])
  | succ k1 =>
   have H := HA.out
   clear HA
   simp only [spec_l03Without.l0] at H
   by_cases c9 : x6_1 < (l0_0.length : Int)
   ·rw [if_pos c9] at H
    have c9b0 : decide (x6_1 < (l0_0.length : Int)) = true := decide_eq_true c9
    have c9b1 : decide ((l0_0.length : Int) ≤ x6_1) = false := decide_eq_false (by omega)
    clear c9
    by_cases c10 : 0 ≤ x6_1
    ·rw [if_pos c10] at H
     have c10b0 : decide (0 ≤ x6_1) = true := decide_eq_true c10
     clear c10
     by_cases c11 : ((rd_T66 l0_0 x6_1).f0).toList = a1.toList
     ·rw [if_pos c11] at H
      have c11b0 : (((rd_T66 l0_0 x6_1).f0).toList == a1.toList) = true := beq_iff_eq.mpr c11
      have c11b1 : (((rd_T66 l0_0 x6_1).f0).toList != a1.toList) = false := bne_eq_false_iff_eq.mpr c11
      clear c11
      have H' := Aside0.mk H
      clear H
      have hnb12 := NB172_173.out
      have hnc12 := NB173_172.out
      have hnb13 := NB172_174.out
      have hnc13 := NB174_172.out
      obtain ⟨hcz14_0, hfz14_0⟩ := zc1 BK172.out
      have p175 : 0 ≤ (x6_1 : Int) := of_decide_eq_true (by first | (with_reducible assumption) | assumption)
      have q175 : x6_1 < (l0_0.length : Int) := of_decide_eq_true (by first | (with_reducible assumption) | assumption)
      obtain ⟨ad175, e175, hx175_0, hx175_1, hx175_2⟩ := at_T66 HR0_0.out x6_1 p175 q175
      cases e175
      replace hx175_0 := (HB.out.cell (World.block_lt_of_cell? w _ hx175_0)).trans hx175_0
      replace hx175_1 := (HB.out.cell (World.block_lt_of_cell? w _ hx175_1)).trans hx175_1
      replace hx175_2 := (HB.out.cell (World.block_lt_of_cell? w _ hx175_2)).trans hx175_2
      replace p175 := eq_true p175
      replace q175 := eq_true q175
      go_wp2
      go_roundg k1
      case measure => have := HK1.out; omega
      case rel => exact ⟨(wrap64 (x6_1 + 1)), (x175000_1), (u175000), (by first | rfl | (simp; done) | (simp [*]; done)), H', ⟨by have := HK1.out; omega⟩, ⟨rx HO_175000.out⟩, ⟨kx BK172.out⟩, ⟨kx BK173.out⟩, ⟨kx BK174.out⟩, ⟨zb3 HB.out GE172.out GE173.out GE174.out⟩⟩
     ·rw [if_neg c11] at H
      have c11b0 : (((rd_T66 l0_0 x6_1).f0).toList == a1.toList) = false := beq_eq_false_iff_ne.mpr c11
      have c11b1 : (((rd_T66 l0_0 x6_1).f0).toList != a1.toList) = true := bne_iff_ne.mpr c11
      by_cases c15 : x175000_1.length < 3518437208883
      ·rw [if_pos c15] at H
       have LMc15 := Aside0.mk c15
       clear c15
       obtain ⟨y177, hy177⟩ : ∃ y_ : List (S66), y_ = (x175000_1 ++ [(⟨(rd_T66 l0_0 x6_1).f0, (rd_T66 l0_0 x6_1).f1, (rd_T66 l0_0 x6_1).f2⟩ : S66)]) := ⟨_, rfl⟩
       replace H : (spec_l03Without.l0 k1 a1 (wrap64 (x6_1 + 1)) l0_0 y177) = some r := by first | (rw [hy177]; with_reducible exact H) | (have H2_ := (Option.bind_some _ _).symm.trans H; rw [hy177]; with_reducible exact H2_) | (have H2_ := (Option.bind_some _ _).symm.trans H; with_reducible exact H2_) | with_reducible exact H | (rw [hy177]; exact H) | exact H
       have Ny177 := Aside0.mk hy177
       clear hy177
       have H' := Aside0.mk H
       clear H
       have hnb16 := NB172_173.out
       have hnc16 := NB173_172.out
       have hnb17 := NB172_174.out
       have hnc17 := NB174_172.out
       obtain ⟨hcz18_0, hfz18_0⟩ := zc1 BK172.out
       have p175 : 0 ≤ (x6_1 : Int) := of_decide_eq_true (by first | (with_reducible assumption) | assumption)
       have q175 : x6_1 < (l0_0.length : Int) := of_decide_eq_true (by first | (with_reducible assumption) | assumption)
       obtain ⟨ad175, e175, hx175_0, hx175_1, hx175_2⟩ := at_T66 HR0_0.out x6_1 p175 q175
       cases e175
       replace hx175_0 := (HB.out.cell (World.block_lt_of_cell? w _ hx175_0)).trans hx175_0
       replace hx175_1 := (HB.out.cell (World.block_lt_of_cell? w _ hx175_1)).trans hx175_1
       replace hx175_2 := (HB.out.cell (World.block_lt_of_cell? w _ hx175_2)).trans hx175_2
       replace p175 := eq_true p175
       replace q175 := eq_true q175
       try go_wp2
       replace HO_175000 := am (Kd.R_drew HO_175000.out)
       replace BK172 := am (blk_drew BK172.out)
       replace BK173 := am (blk_drew BK173.out)
       replace BK174 := am (blk_drew BK174.out)
       replace HB := am (below_drew1 HB.out)
       have p176 : 0 ≤ (x6_1 : Int) := of_decide_eq_true (by first | (with_reducible assumption) | assumption)
       have q176 : x6_1 < (l0_0.length : Int) := of_decide_eq_true (by first | (with_reducible assumption) | assumption)
       obtain ⟨ad176, e176, hx176_0, hx176_1, hx176_2⟩ := at_T66 HR0_0.out x6_1 p176 q176
       have hw176_2 := hx176_2
       have hw176_1 := hx176_1
       have hw176_0 := hx176_0
       obtain rfl : ad175 = ad176 := (by injection e176)
       replace hx176_0 := (HB.out.cell (World.block_lt_of_cell? w _ hx176_0)).trans hx176_0
       replace hx176_1 := (HB.out.cell (World.block_lt_of_cell? w _ hx176_1)).trans hx176_1
       replace hx176_2 := (HB.out.cell (World.block_lt_of_cell? w _ hx176_2)).trans hx176_2
       replace p176 := eq_true p176
       replace q176 := eq_true q176
       refine start_ (n := 11) (S := fun w' => w'.cell? ⟨gb174, 0, none⟩ = some (u175000) ∧ w'.cell? ⟨gb172, 0, none⟩ = some (.slice (some ad175) l0_0.length c0_0) ∧ w'.cell? (ad175.add ((x6_1).toNat * 3)) = some (.string ((rd_T66 l0_0 x6_1).f0)) ∧ w'.cell? ⟨(ad175.add ((x6_1).toNat * 3)).block, (ad175.add ((x6_1).toNat * 3)).off + 1, none⟩ = some (.string ((rd_T66 l0_0 x6_1).f1)) ∧ w'.cell? ⟨(ad175.add ((x6_1).toNat * 3)).block, (ad175.add ((x6_1).toNat * 3)).off + 2, none⟩ = some (.int .i64 ((rd_T66 l0_0 x6_1).f2))) (ds := [10]) #[false, false, false, false, false, false, false, false, false, false, false] (by kernel_rfl) rfl rfl ⟨ct BK174.out 0, ct BK172.out 0, ((HB.out.cell (World.block_lt_of_cell? w _ hw176_0)).trans hw176_0), ((HB.out.cell (World.block_lt_of_cell? w _ hw176_1)).trans hw176_1), ((HB.out.cell (World.block_lt_of_cell? w _ hw176_2)).trans hw176_2)⟩ (fun hHeld => ?_); refine with_tabW spec_l03Without.tab6 spec_l03Without.bits6 (fun HT_ HW_ => ?_)
       generalize wr.drew = w19 at HO_175000 BK172 BK173 BK174 HB hx176_0 hx176_1 hx176_2 hHeld ⊢
       refine pure_ (i := 0) (N := some 23) (v := ?_) (a' := ?_) #[true, false, false, false, false, false, false, false, false, false, false] rfl rfl (any_of HT_.out (by kernel_rfl)) (fun _ _ _ h => h) (Or.inl ⟨by rfl, ?_⟩) ?_ ?_
       rotate_left
       ·intro w'
        go_simp
        with_reducible rfl
       rotate_left
       ·simp only [Act.put, List.setIfInBounds_toArray, List.set_cons_zero, List.set_cons_succ, i64_w, i32_w]
        rfl
       refine pure_ (i := 2) (N := some 25) (v := ?_) (a' := ?_) #[true, false, true, false, false, false, false, false, false, false, false] rfl rfl (any_of HT_.out (by kernel_rfl)) (fun _ _ _ h => h) (Or.inl ⟨by rfl, ?_⟩) ?_ ?_
       rotate_left
       ·intro w'
        go_simp
        with_reducible rfl
       rotate_left
       ·simp only [Act.put, List.setIfInBounds_toArray, List.set_cons_zero, List.set_cons_succ, i64_w, i32_w]
        rfl
       refine pure_ (i := 4) (N := some 27) (v := ?_) (a' := ?_) #[true, false, true, false, true, false, false, false, false, false, false] rfl rfl (any_of HT_.out (by kernel_rfl)) (fun _ _ _ h => h) (Or.inl ⟨by rfl, ?_⟩) ?_ ?_
       rotate_left
       ·intro w'
        go_simp
        with_reducible rfl
       rotate_left
       ·simp only [Act.put, List.setIfInBounds_toArray, List.set_cons_zero, List.set_cons_succ, i64_w, i32_w]
        rfl
       refine take_ (i := 1) (N := some 24) (v := ?_) (a' := ?_) #[true, true, true, false, true, false, false, false, false, false, false] rfl rfl (take_ofW HT_.out HW_.out (by kernel_rfl)) (fun _ _ _ h => h) (Or.inl ⟨by rfl, ?_⟩) hHeld ?_ ?_
       rotate_left
       ·rintro w' ⟨s0, s1, s2, s3, s4⟩
        go_simp
        with_reducible rfl
       rotate_left
       ·simp only [Act.put, List.setIfInBounds_toArray, List.set_cons_zero, List.set_cons_succ, i64_w, i32_w]
        rfl
       refine take_ (i := 3) (N := some 26) (v := ?_) (a' := ?_) #[true, true, true, true, true, false, false, false, false, false, false] rfl rfl (take_ofW HT_.out HW_.out (by kernel_rfl)) (fun _ _ _ h => h) (Or.inl ⟨by rfl, ?_⟩) hHeld ?_ ?_
       rotate_left
       ·rintro w' ⟨s0, s1, s2, s3, s4⟩
        go_simp
        with_reducible rfl
       rotate_left
       ·simp only [Act.put, List.setIfInBounds_toArray, List.set_cons_zero, List.set_cons_succ, i64_w, i32_w]
        rfl
       refine pure_ (i := 5) (N := some 28) (v := ?_) (a' := ?_) #[true, true, true, true, true, true, false, false, false, false, false] rfl rfl (any_of HT_.out (by kernel_rfl)) (fun _ _ _ h => h) (Or.inl ⟨by rfl, ?_⟩) ?_ ?_
       rotate_left
       ·intro w'
        go_simp
        with_reducible rfl
       rotate_left
       ·simp only [Act.put, List.setIfInBounds_toArray, List.set_cons_zero, List.set_cons_succ, i64_w, i32_w]
        rfl
       refine take_ (i := 6) (N := some 29) (v := ?_) (a' := ?_) #[true, true, true, true, true, true, true, false, false, false, false] rfl rfl (take_ofW HT_.out HW_.out (by kernel_rfl)) (fun _ _ _ h => h) (Or.inl ⟨by rfl, ?_⟩) hHeld ?_ ?_
       rotate_left
       ·rintro w' ⟨s0, s1, s2, s3, s4⟩
        go_simp
        with_reducible rfl
       rotate_left
       ·simp only [Act.put, List.setIfInBounds_toArray, List.set_cons_zero, List.set_cons_succ, i64_w, i32_w]
        rfl
       refine one_ (i := 7) (N := some 30) #[true, true, true, true, true, true, true, true, false, false, false] rfl rfl (one_of HT_.out (by kernel_rfl)) (by decide) (fun K hK => ?_)
       refine value_ (w1 := ?_) (v := ?_) (by rfl) rfl ?_ ?_
       rotate_left 2
       ·go_simp
        constructor
        ·rfl
        ·rfl
       refine hK.out _ _ ⟨(blk_cell (blk_alloc BK174.out _) 0).trans rfl, (blk_cell (blk_alloc BK172.out _) 0).trans rfl, (World.cell?_alloc_lt _ _ _ (World.block_lt_of_cell? _ _ (((HB.out.cell (World.block_lt_of_cell? w _ hw176_0)).trans hw176_0)))).trans (((HB.out.cell (World.block_lt_of_cell? w _ hw176_0)).trans hw176_0)), (World.cell?_alloc_lt _ _ _ (World.block_lt_of_cell? _ _ (((HB.out.cell (World.block_lt_of_cell? w _ hw176_1)).trans hw176_1)))).trans (((HB.out.cell (World.block_lt_of_cell? w _ hw176_1)).trans hw176_1)), (World.cell?_alloc_lt _ _ _ (World.block_lt_of_cell? _ _ (((HB.out.cell (World.block_lt_of_cell? w _ hw176_2)).trans hw176_2)))).trans (((HB.out.cell (World.block_lt_of_cell? w _ hw176_2)).trans hw176_2))⟩ (fun hHeld => ?_)
       clear hK K
       refine norm_ (a' := ?_) ?_ ?_
       rotate_left
       ·show Act.put _ (some 30) _ = _
        simp only [Act.put, List.setIfInBounds_toArray, List.set_cons_zero, List.set_cons_succ, i64_w, i32_w]
        rfl
       refine one_ (i := 8) (N := some 31) #[true, true, true, true, true, true, true, true, true, false, false] rfl rfl (one_of HT_.out (by kernel_rfl)) (by decide) (fun K hK => ?_)
       refine Kd.R_append_step k66 (w0 := w) w.heap.size (by rfl) (.tmp 24) (.tmp 30) 29 66 (.agg #[(.string ⟨#[]⟩), (.string ⟨#[]⟩), (.int .i64 0)]) 40 rfl Try.underlying29 info66 rfl (by decide) (by omega) u175000 x175000_1 (⟨(rd_T66 l0_0 x6_1).f0, (rd_T66 l0_0 x6_1).f1, (rd_T66 l0_0 x6_1).f2⟩ : S66) [.string ((rd_T66 l0_0 x6_1).f0), .string ((rd_T66 l0_0 x6_1).f1), .int .i64 ((rd_T66 l0_0 x6_1).f2)] (fun _ => True) (fun _ => False) rfl rfl ?aP (fun _ hk => hk.elim) ?aF ?aO ?aB ?aS ?aL ?_
       (case aP => exact k66_mkM _ _ _ (⟨(rd_T66 l0_0 x6_1).f0, (rd_T66 l0_0 x6_1).f1, (rd_T66 l0_0 x6_1).f2⟩ : S66))
       (case aB => exact (zb3 HB.out GE172.out GE173.out GE174.out))
       (case aF => exact (fun _ _ => trivial))
       (case aO => exact (rx HO_175000.out))
       (case aS => exact (below_size (zb3 HB.out GE172.out GE173.out GE174.out)))
       (case aL => have := LMc15.out; omega)
       intro v178 w20 ho hb hg hat
       rw [← Ny177.out] at ho
       have HO179 := am (ho)
       replace BK172 := am (blk_grown (g := gb172) (o := .cells #[.slice (some ad175) l0_0.length c0_0] 31 (0, 0)) (kx BK172.out) hg (Kd.R_ne HO_175000.out BK172.out (by decide)))
       replace BK173 := am (blk_grown (g := gb173) (o := .cells #[.slice none 0 0] 31 (0, 0)) (kx BK173.out) hg (Kd.R_ne HO_175000.out BK173.out (by decide)))
       replace BK174 := am (blk_grown (g := gb174) (o := .cells #[u175000] 31 (0, 0)) (kx BK174.out) hg (Kd.R_ne HO_175000.out BK174.out (by decide)))
       replace HB := am (hb)
       clear HO_175000 ho hb hg hat
       obtain ⟨Ao21, co21, eo21⟩ := Kd.R_slice HO179.out
       (first | subst eo21 | (injection eo21 with f1_ f2_ f3_; have f4_ := f1_.symm; have f5_ := f3_.symm; clear f1_ f2_ f3_; subst f4_; subst f5_))
       refine hK.out _ _ ⟨ct BK174.out 0, ct BK172.out 0, ((HB.out.cell (World.block_lt_of_cell? w _ hw176_0)).trans hw176_0), ((HB.out.cell (World.block_lt_of_cell? w _ hw176_1)).trans hw176_1), ((HB.out.cell (World.block_lt_of_cell? w _ hw176_2)).trans hw176_2)⟩ (fun hHeld => ?_)
       clear hK K
       refine norm_ (a' := ?_) ?_ ?_
       rotate_left
       ·show Act.put _ (some 31) _ = _
        simp only [Act.put, List.setIfInBounds_toArray, List.set_cons_zero, List.set_cons_succ, i64_w, i32_w]
        rfl
       refine pure_ (i := 9) (N := some 32) (v := ?_) (a' := ?_) #[true, true, true, true, true, true, true, true, true, true, false] rfl rfl (any_of HT_.out (by kernel_rfl)) (fun _ _ _ h => h) (Or.inl ⟨by rfl, ?_⟩) ?_ ?_
       rotate_left
       ·intro w'
        go_simp
        with_reducible rfl
       rotate_left
       ·simp only [Act.put, List.setIfInBounds_toArray, List.set_cons_zero, List.set_cons_succ, i64_w, i32_w]
        rfl
       refine last_ (i := 10) (N := none) #[true, true, true, true, true, true, true, true, true, true, true] rfl rfl (one_of HT_.out (by kernel_rfl)) (by decide) (fun K hK => ?_)
       have hs22 : w20.cell? ⟨gb174, 0, none⟩ = some (u175000) := ct BK174.out 0
       have hfs22 := blk_frozen BK174.out 0
       have hns22_0 := NB172_174.out
       have hns22_1 := NB173_174.out
       have hms22_0 := NB174_172.out
       have hms22_1 := NB174_173.out
       refine skip_ (w1 := ?_) (by rfl) rfl ?_ ?_
       rotate_left
       ·go_simp
        rfl
       refine hK.out _ _ ?_
       clear hK K
       refine done_ (done_of HT_.out (by kernel_rfl)) ?_
       try go_wp2
       go_roundg k1
       case measure => have := HK1.out; omega
       case rel => exact ⟨(wrap64 (x6_1 + 1)), (y177), (.slice Ao21 y177.length co21), (by first | rfl | (simp; done) | (simp [*]; done)), H', ⟨by have := HK1.out; omega⟩, ⟨rx (Kd.R_mono (Kd.R_far (p := ⟨gb174, 0, none⟩) (Kd.R_types HO179.out BK174.out (by decide)) (fun _ hk => hk.2) (.slice Ao21 y177.length co21)) (fun _ hk => trivial))⟩, ⟨zf1 BK172.out NB172_174.out⟩, ⟨zf1 BK173.out NB173_174.out⟩, ⟨by (with_reducible repeat (first | refine blk_drewN ?_ _ | refine blk_drew ?_ | refine blk_alloc ?_ _)); refine blk_put (cs := #[u175000]) ?_ 0 _ rfl; (with_reducible repeat (first | refine blk_drewN ?_ _ | refine blk_drew ?_ | refine blk_alloc ?_ _)); exact BK174.out⟩, ⟨zb3 HB.out GE172.out GE173.out GE174.out⟩⟩
      ·rw [if_neg c15] at H
       exact absurd H (by simp)
    ·rw [if_neg c10] at H
     exact absurd H (by simp)
   ·rw [if_neg c9] at H
    have c9b0 : decide (x6_1 < (l0_0.length : Int)) = false := decide_eq_false c9
    have c9b1 : decide ((l0_0.length : Int) ≤ x6_1) = true := decide_eq_true (by omega)
    clear c9
    obtain rfl := Option.some.inj H
    have hnb23 := NB172_173.out
    have hnc23 := NB173_172.out
    have hnb24 := NB172_174.out
    have hnc24 := NB174_172.out
    obtain ⟨hcz25_0, hfz25_0⟩ := zc1 BK172.out
    have hnb26 := NB174_173.out
    have hnc26 := NB173_174.out
    obtain ⟨hcz27_0, hfz27_0⟩ := zc1 BK174.out
    obtain ⟨Ao28, co28, eo28⟩ := Kd.R_slice HO_175000.out
    subst eo28
    obtain ⟨hcz29_0, hfz29_0⟩ := zc1 BK173.out
    go_wp2
    refine bodyPost_ret (results_cell_row rfl _ _ gb173 31 #[.slice Ao28 x175000_1.length co28] (0, 0) _ rfl (by (with_reducible repeat (first | refine blk_drewN ?_ _ | refine blk_drew ?_ | refine blk_alloc ?_ _)); refine blk_put (cs := #[.slice none 0 0]) ?_ 0 _ rfl; (with_reducible repeat (first | refine blk_drewN ?_ _ | refine blk_drew ?_ | refine blk_alloc ?_ _)); exact BK173.out) Try.underlying31 rfl (by kernel_rfl)) rfl ?_
    exact ⟨_, by first | rfl | (simp [errW_none, errW_some] <;> rfl) | (simp [*, errW_none, errW_some] <;> rfl), rx (Kd.R_mono (Kd.R_far (p := ⟨gb173, 0, none⟩) (Kd.R_types HO_175000.out BK173.out (by decide)) (fun _ hk => hk.2) (.slice Ao28 x175000_1.length co28)) (fun _ hk => trivial)), zb3 HB.out GE172.out GE173.out GE174.out⟩

end Go.Proofs.Ytklbkkoojkmjbaa.QFnExactDoActs
