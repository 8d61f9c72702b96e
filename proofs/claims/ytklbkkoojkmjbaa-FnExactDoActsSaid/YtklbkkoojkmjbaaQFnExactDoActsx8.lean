/- Written by the kit's print.py, called by our own print2.sh with one import more; not by print.sh. -/
import Derived.Test.YtklbkkoojkmjbaaQFnExactDoActsx0
import Derived.Test.YtklbkkoojkmjbaaQFnExactDoActsx7
namespace Go.Proofs.Ytklbkkoojkmjbaa.QFnExactDoActs
open Go.RowKit Go.Proofs.YtklbkkoojkmjbaaW.PrintWords Go.Proofs.YtklbkkoojkmjbaaW.PrintLast Go.Proofs.YtklbkkoojkmjbaaW.PrintMore
attribute [local go_sem] max2_int min2_int max_two min_two max_three min_three max_four min_four   -- for this text's walks alone
open Go.Proofs.Ytklbkkoojkmjbaa.Short
set_option linter.unusedVariables false
set_option linter.unusedSimpArgs false

/-! ### spec_DoActs: function 17 -/
def spec_DoActs.l0 : Nat → List (S35) → Int → List (S66) → Option ((List (S66)) × Int)
 | 0, _, _, _ => none
 | k + 1, x1, x7, x218000 => if x7 < (x1.length : Int) then (if 0 ≤ x7 then ((spec_DoAct.f k x218000 ((rd_T35 x1 x7).f0) ((rd_T35 x1 x7).f1) ((rd_T35 x1 x7).f2) ((rd_T35 x1 x7).f3)).bind fun bt219 => (if bt219.2 = true then (spec_DoActs.l0 k x1 (wrap64 (x7 + 1)) bt219.1) else (some (x218000, x7)))) else (none)) else (some (x218000, (x1.length : Int)))
def spec_DoActs.f (k : Nat) (l0_0 : List (S66)) (l1 : List (S35)) : Option ((List (S66)) × Int) := (some (([] : List (S66)) : List (S66))).bind fun y211 => (if y211.length + l0_0.length < 3518437208883 then (spec_DoActs.l0 k l1 0 (y211 ++ l0_0)) else (none))
theorem spec_DoActs.mono_l : ∀ k, (∀ y0 y1 y2, LeO (spec_DoActs.l0 k y0 y1 y2) (spec_DoActs.l0 (k + 1) y0 y1 y2))
 | 0 => fun _ _ _ r h => by simp [spec_DoActs.l0] at h
 | k + 1 => by
  have ih0 := spec_DoActs.mono_l k
  ·intro y0 y1 y2
   unfold spec_DoActs.l0
   repeat' first
   | (with_reducible exact ih0 _ _ _)
   | (with_reducible exact spec_DoAct.mono _ _ _ _ _ _)
   | (with_reducible exact LeO.refl _)
   | (with_reducible exact LeO.none _)
   | (with_reducible refine LeO.ite ?_ ?_)
   | (with_reducible refine LeO.bind ?_ (fun _ => ?_))
   | exact ih0 _ _ _
   | exact spec_DoAct.mono _ _ _ _ _ _
   | exact LeO.none _
   | refine LeO.ite ?_ ?_
   | refine LeO.bind ?_ (fun _ => ?_)
theorem spec_DoActs.mono : ∀ a0 a1 k, LeO (spec_DoActs.f k a0 a1) (spec_DoActs.f (k + 1) a0 a1) := by
 intro a0 a1 k
 have ih0 := spec_DoActs.mono_l k
 unfold spec_DoActs.f
 repeat' first
   | (with_reducible exact ih0 _ _ _)
   | (with_reducible exact spec_DoAct.mono _ _ _ _ _ _)
   | (with_reducible exact LeO.refl _)
   | (with_reducible exact LeO.none _)
   | (with_reducible refine LeO.ite ?_ ?_)
   | (with_reducible refine LeO.bind ?_ (fun _ => ?_))
   | exact ih0 _ _ _
   | exact spec_DoAct.mono _ _ _ _ _ _
   | exact LeO.none _
   | refine LeO.ite ?_ ?_
   | refine LeO.bind ?_ (fun _ => ?_)
def spec_DoActs.T5 : Bool × List (List Nat × List Nat) := (true, [([], []), ([], []), ([], []), ([1, 2], [1, 2]), ([3], [3]), ([0, 4], [0, 4]), ([5], [5]), ([6], [6]), ([6], [6]), ([], []), ([9, 7, 5, 0, 1, 2, 3, 4, 5, 6, 7, 9], [7, 9]), ([8, 10, 0, 1, 2, 3, 4, 5, 6, 7, 8, 9, 10], [8])])
def spec_DoActs.B5 : List Nat := [0, 0, 0, 6, 14, 31, 63, 127, 127, 0, 767, 2047]
theorem spec_DoActs.tab5 : rtab .any (opsOf Try.f17 5) = spec_DoActs.T5 := by kernel_rfl
theorem spec_DoActs.bits5 : waitsOk spec_DoActs.T5.2 spec_DoActs.B5 = true := by kernel_rfl
set_option maxHeartbeats 8000000 in
set_option maxRecDepth 100000 in
theorem spec_DoActs.calls (k : Nat) (A0_0 : Option Addr) (c0_0 : Nat) (l0_0 : List (S66)) (A1 : Option Addr) (c1 : Nat) (l1 : List (S35)) (r1 : List (S66)) (r2 : Int) (w : World) (hr0_0 : Kd.C k66 w A0_0 l0_0.length l0_0) (hc0_0 : l0_0.length ≤ c0_0) (hr1 : Kd.C k35 w A1 l1.length l1) (hc1 : l1.length ≤ c1) (h : spec_DoActs.f k l0_0 l1 = some (r1, r2)) :
  Calls Try.prog 17 #[.agg #[.slice A0_0 l0_0.length c0_0], .slice A1 l1.length c1] w fun e w' => ∃ v0_ : Value, e = .returned (.tuple #[.agg #[v0_], .int .i64 r2]) ∧ Kd.R k66 66 w' w.heap.size (fun _ => True) v0_ r1 ∧ Below w.heap.size w w' := by
 have hu31 := Try.underlying31
 have hu35 := Try.underlying35
 have HR0_0 := Aside0.mk hr0_0
 have HC0_0 := Aside0.mk hc0_0
 clear hr0_0 hc0_0
 have HR1 := Aside0.mk hr1
 have HC1 := Aside0.mk hc1
 clear hr1 hc1
 have HB := Aside0.mk (Below.refl w.heap.size w)
 have H : ((some (([] : List (S66)) : List (S66))).bind fun y211 => (if y211.length + l0_0.length < 3518437208883 then (spec_DoActs.l0 k l1 0 (y211 ++ l0_0)) else (none))) = some (r1, r2) := h
 clear h
 obtain ⟨y211, hy211⟩ : ∃ y_ : List (S66), y_ = (([] : List (S66))) := ⟨_, rfl⟩
 replace H : (if y211.length + l0_0.length < 3518437208883 then (spec_DoActs.l0 k l1 0 (y211 ++ l0_0)) else (none)) = some (r1, r2) := by first | (rw [hy211]; with_reducible exact H) | (have H2_ := (Option.bind_some _ _).symm.trans H; rw [hy211]; with_reducible exact H2_) | (have H2_ := (Option.bind_some _ _).symm.trans H; with_reducible exact H2_) | with_reducible exact H | (rw [hy211]; exact H) | exact H
 have Ny211 := Aside0.mk hy211
 clear hy211
 by_cases c3 : y211.length + l0_0.length < 3518437208883
 ·rw [if_pos c3] at H
  have LMc3 := Aside0.mk c3
  clear c3
  obtain ⟨y214, hy214⟩ : ∃ y_ : List (S66), y_ = (y211 ++ l0_0) := ⟨_, rfl⟩
  replace H : (spec_DoActs.l0 k l1 0 y214) = some (r1, r2) := by first | (rw [hy214]; with_reducible exact H) | (have H2_ := (Option.bind_some _ _).symm.trans H; rw [hy214]; with_reducible exact H2_) | (have H2_ := (Option.bind_some _ _).symm.trans H; with_reducible exact H2_) | with_reducible exact H | (rw [hy214]; exact H) | exact H
  have Ny214 := Aside0.mk hy214
  clear hy214
  have H' := Aside0.mk H
  clear H
  go_enter Try.func17, Try.ntmps17
  go_wp2_with (first | ((with_reducible refine gate_dst (N := 2) rfl ?_); refine box_event ?hg (N := 2) ?hd (cs := #[.slice A0_0 l0_0.length c0_0]) (t := 31) ?hr ?_; (case hd => rfl); (case hg => rfl); (case hr => first | (go_simp; done) | (go_simp; rfl)); intro gb209 hg w4 hbox hb; have BK209 := am (hbox); have GW209 := zge hg (zb0 HB.out); have GE209 := zge hg (zb0 HB.out); replace HB := am (below_step (zb0 HB.out) hb); clear hb hbox hg) | ((with_reducible refine gate_dst (N := 4) rfl ?_); refine box_event ?hg (N := 4) ?hd (cs := #[.slice none 0 0]) (t := 31) ?hr ?_; (case hd => rfl); (case hg => rfl); (case hr => first | (go_simp; done) | (go_simp; rfl)); intro gb210 hg w5 hbox hb; have BK210 := am (hbox); have GW210 := zge hg (zb1 HB.out GE209.out); have GE210 := zge hg (zb1 HB.out GE209.out); have NB209_210 := znl hg (kx BK209.out); have NB210_209 := zng hg (kx BK209.out); replace BK209 := am (bb hb (kx BK209.out)); replace HB := am (below_step (zb1 HB.out GE209.out) hb); clear hb hbox hg) | ((with_reducible refine gate_dst (N := 10) rfl ?_); refine Kd.R_lit k66 _ 66 ?hg (N := 10) ?hd (xs := ([] : List (S66))) (inner := []) (ok := fun _ => True) (okp := fun _ => True) ?hr ?hp (fun _ hk => hk) trivial (Below.refl _ _) (Nat.le_refl _) (by simp) ?_; (case hd => rfl); (case hg => rfl); (case hr => first | (go_simp; done) | (go_simp; rfl)); (case hp => exact (Reps.none _ _)); intro v212 w6 ho7 hb hg_ hnew_; clear hg_ hnew_; (first | rw [← Ny211.out] at ho7 | (simp only [Int.reduceToNat] at ho7; rw [← Ny211.out] at ho7)); have HO213 := am (Kd.R_lower ho7 (below_size (zb2 HB.out GE209.out GE210.out))); replace BK209 := am (bb hb (kx BK209.out)); replace BK210 := am (bb hb (kx BK210.out)); replace HB := am (below_step (zb2 HB.out GE209.out GE210.out) hb); clear hb ho7; have hnb8 := NB209_210.out; have hnc8 := NB210_209.out; obtain ⟨hcz9_0, hfz9_0⟩ := zc1 BK209.out) | ((with_reducible refine gate_builtin (b := .append) (xs := #[.tmp 10, .tmp 12]) rfl ?_); at_builtin; refine Kd.R_append_rows k66 (w0 := w) w.heap.size rfl (.tmp 10) (.tmp 12) 29 66 (.agg #[(.string ⟨#[]⟩), (.string ⟨#[]⟩), (.int .i64 0)]) 40 rfl Try.underlying29 info66 rfl (by decide) (by omega) v212 y211 l0_0 _ _ _ (fun _ => True) (fun _ => False) rfl rfl ?aO ?aR (fun _ _ h => h) (fun _ h => h.elim) ?aF ?aB ?aS ?aL ?_; (case aR => repeat (first | exact (Kd.C_below HR0_0.out HB.out) | (with_reducible refine Kd.C_alloc ?_ _) | (with_reducible refine Kd.C_drewN ?_ _) | (with_reducible refine Kd.C_drew ?_))); (case aB => exact (zb2 HB.out GE209.out GE210.out)); (case aF => exact (fun _ _ => trivial)); (case aO => exact (rx HO213.out)); (case aS => exact (below_size (zb2 HB.out GE209.out GE210.out))); (case aL => have := LMc3.out; omega); intro v215 w10 ho hb hg hat; rw [← Ny214.out] at ho; have HO216 := am (ho); replace BK209 := am (blk_grown (g := gb209) (o := .cells #[.slice A0_0 l0_0.length c0_0] 31 (0, 0)) (kx BK209.out) hg (Kd.R_ne HO213.out BK209.out (by decide))); replace BK210 := am (blk_grown (g := gb210) (o := .cells #[.slice none 0 0] 31 (0, 0)) (kx BK210.out) hg (Kd.R_ne HO213.out BK210.out (by decide))); replace HB := am (hb); clear HO213; clear ho hb hg hat; obtain ⟨Ao11, co11, eo11⟩ := Kd.R_slice HO216.out; subst eo11) | ((with_reducible refine gate_dst (N := 6) rfl ?_); refine box_event ?hg (N := 6) ?hd (cs := #[.slice none 0 0]) (t := 31) ?hr ?_; (case hd => rfl); (case hg => rfl); (case hr => first | (go_simp; done) | (go_simp; rfl)); intro gb217 hg w12 hbox hb; have BK217 := am (hbox); have GW217 := zge hg (zb2 HB.out GE209.out GE210.out); have GE217 := zge hg (zb2 HB.out GE209.out GE210.out); have NB209_217 := znl hg (kx BK209.out); have NB217_209 := zng hg (kx BK209.out); have NB210_217 := znl hg (kx BK210.out); have NB217_210 := zng hg (kx BK210.out); replace HO216 := am (Kd.R_below (rx HO216.out) hb); replace BK209 := am (bb hb (kx BK209.out)); replace BK210 := am (bb hb (kx BK210.out)); replace HB := am (below_step (zb2 HB.out GE209.out GE210.out) hb); clear hb hbox hg; have hnb13 := NB217_209.out; have hnc13 := NB209_217.out; have hnb14 := NB217_210.out; have hnc14 := NB210_217.out; obtain ⟨hcz15_0, hfz15_0⟩ := zc1 BK217.out))
  go_loopg [7] k (fun kq v7 w' => ∃ (x7_1 : Int) (x218000_1 : List (S66)) (u218000 : Value), v7 = .int .i64 x7_1 ∧ Aside0 (spec_DoActs.l0 kq l1 x7_1 x218000_1 = some (r1, r2)) ∧ Aside0 (kq ≤ k) ∧ Aside0 (Kd.R k66 66 w' w.heap.size (fun _ => True) u218000 x218000_1) ∧ Aside0 (w'.heap[gb209]? = some (.cells #[(.slice A0_0 l0_0.length c0_0)] 31 (0, 0))) ∧ Aside0 (w'.heap[gb210]? = some (.cells #[(.slice none 0 0)] 31 (0, 0))) ∧ Aside0 (w'.heap[gb217]? = some (.cells #[u218000] 31 (0, 0))) ∧ Aside0 (Below w.heap.size w w'))
  case atStart => exact ⟨(0), (y214), (.slice Ao11 y214.length co11), (by first | rfl | (simp; done) | (simp [*]; done)), H', ⟨Nat.le_refl _⟩, ⟨rx (Kd.R_mono (Kd.R_far (p := ⟨gb217, 0, none⟩) (Kd.R_types HO216.out BK217.out (by decide)) (fun _ hk => hk.2) (.slice Ao11 y214.length co11)) (fun _ hk => trivial))⟩, ⟨zf1 BK209.out NB209_217.out⟩, ⟨zf1 BK210.out NB210_217.out⟩, ⟨by (with_reducible repeat (first | refine blk_drewN ?_ _ | refine blk_drew ?_ | refine blk_alloc ?_ _)); refine blk_put (cs := #[.slice none 0 0]) ?_ 0 _ rfl; (with_reducible repeat (first | refine blk_drewN ?_ _ | refine blk_drew ?_ | refine blk_alloc ?_ _)); exact BK217.out⟩, ⟨zb3 HB.out GE209.out GE210.out GE217.out⟩⟩
  case round =>
   clear H'
   try clear c1
   try clear p2
   try clear c3
   try clear c8
   try clear c13
   try clear c14
   try clear hcz15_0
   try clear hcz9_0
   try clear hfz15_0
   try clear hfz9_0
   obtain ⟨x7_1, x218000_1, u218000, rfl, HA, HK1, HO_218000, BK209, BK210, BK217, HB⟩ := hrel
   cases gk with
   | zero => exact absurd HA.out (by simp [spec_DoActs.l0])
   | succ k1 =>
    have H := HA.out
    clear HA
    simp only [spec_DoActs.l0] at H
    by_cases c16 : x7_1 < (l1.length : Int)
    ·rw [if_pos c16] at H
     have c16b0 : decide (x7_1 < (l1.length : Int)) = true := decide_eq_true c16
     have c16b1 : decide ((l1.length : Int) ≤ x7_1) = false := decide_eq_false (by omega)
     clear c16
     by_cases c17 : 0 ≤ x7_1
     ·rw [if_pos c17] at H
      have c17b0 : decide (0 ≤ x7_1) = true := decide_eq_true c17
      clear c17
      replace H := Option.bind_eq_some_iff.mp H
      obtain ⟨⟨t219, t222⟩, A180, H⟩ := H
      try dsimp only at H
      have A18 := Aside0.mk A180
      clear A180
      by_cases c19 : t222 = true
      ·subst c19
       have H1 : (spec_DoActs.l0 k1 l1 (wrap64 (x7_1 + 1)) t219) = some (r1, r2) := by rw [if_pos rfl] at H; exact H
       clear H
       have H := H1
       clear H1
       have H' := Aside0.mk H
       clear H
       obtain ⟨Ao20, co20, eo20⟩ := Kd.R_slice HO_218000.out
       subst eo20
       try go_wp2
       replace HO_218000 := am (Kd.R_drew HO_218000.out)
       replace BK209 := am (blk_drew BK209.out)
       replace BK210 := am (blk_drew BK210.out)
       replace BK217 := am (blk_drew BK217.out)
       replace HB := am (below_drew1 HB.out)
       have p218 : 0 ≤ (x7_1 : Int) := of_decide_eq_true (by first | (with_reducible assumption) | assumption)
       have q218 : x7_1 < (l1.length : Int) := of_decide_eq_true (by first | (with_reducible assumption) | assumption)
       obtain ⟨ad218, e218, hx218_0, hx218_1, hx218_2, hx218_3⟩ := at_T35 HR1.out x7_1 p218 q218
       have hw218_3 := hx218_3
       have hw218_2 := hx218_2
       have hw218_1 := hx218_1
       have hw218_0 := hx218_0
       cases e218
       replace hx218_0 := (HB.out.cell (World.block_lt_of_cell? w _ hx218_0)).trans hx218_0
       replace hx218_1 := (HB.out.cell (World.block_lt_of_cell? w _ hx218_1)).trans hx218_1
       replace hx218_2 := (HB.out.cell (World.block_lt_of_cell? w _ hx218_2)).trans hx218_2
       replace hx218_3 := (HB.out.cell (World.block_lt_of_cell? w _ hx218_3)).trans hx218_3
       replace p218 := eq_true p218
       replace q218 := eq_true q218
       refine start_ (n := 12) (S := fun w' => w'.cell? ⟨gb217, 0, none⟩ = some (.slice Ao20 x218000_1.length co20) ∧ w'.cell? (ad218.add ((x7_1).toNat * 4)) = some (.int .i64 ((rd_T35 l1 x7_1).f0)) ∧ w'.cell? ⟨(ad218.add ((x7_1).toNat * 4)).block, (ad218.add ((x7_1).toNat * 4)).off + 1, none⟩ = some (.string ((rd_T35 l1 x7_1).f1)) ∧ w'.cell? ⟨(ad218.add ((x7_1).toNat * 4)).block, (ad218.add ((x7_1).toNat * 4)).off + 2, none⟩ = some (.string ((rd_T35 l1 x7_1).f2)) ∧ w'.cell? ⟨(ad218.add ((x7_1).toNat * 4)).block, (ad218.add ((x7_1).toNat * 4)).off + 3, none⟩ = some (.string ((rd_T35 l1 x7_1).f3))) (ds := []) #[false, false, false, false, false, false, false, false, false, false, false, false] (by kernel_rfl) rfl rfl ⟨ct BK217.out 0, ((HB.out.cell (World.block_lt_of_cell? w _ hw218_0)).trans hw218_0), ((HB.out.cell (World.block_lt_of_cell? w _ hw218_1)).trans hw218_1), ((HB.out.cell (World.block_lt_of_cell? w _ hw218_2)).trans hw218_2), ((HB.out.cell (World.block_lt_of_cell? w _ hw218_3)).trans hw218_3)⟩ (fun hHeld => ?_); refine with_tabW spec_DoActs.tab5 spec_DoActs.bits5 (fun HT_ HW_ => ?_)
       generalize wr.drew = w21 at HO_218000 BK209 BK210 BK217 HB hx218_0 hx218_1 hx218_2 hx218_3 hHeld ⊢
       refine pure_ (i := 1) (N := some 23) (v := ?_) (a' := ?_) #[false, true, false, false, false, false, false, false, false, false, false, false] rfl rfl (any_of HT_.out (by kernel_rfl)) (fun _ _ _ h => h) (Or.inl ⟨by rfl, ?_⟩) ?_ ?_
       rotate_left
       ·intro w'
        go_simp
        with_reducible rfl
       rotate_left
       ·simp only [Act.put, List.setIfInBounds_toArray, List.set_cons_zero, List.set_cons_succ, i64_w, i32_w]
        rfl
       refine pure_ (i := 2) (N := some 24) (v := ?_) (a' := ?_) #[false, true, true, false, false, false, false, false, false, false, false, false] rfl rfl (any_of HT_.out (by kernel_rfl)) (fun _ _ _ h => h) (Or.inl ⟨by rfl, ?_⟩) ?_ ?_
       rotate_left
       ·intro w'
        go_simp
        with_reducible rfl
       rotate_left
       ·simp only [Act.put, List.setIfInBounds_toArray, List.set_cons_zero, List.set_cons_succ, i64_w, i32_w]
        rfl
       refine pure_ (i := 3) (N := some 25) (v := ?_) (a' := ?_) #[false, true, true, true, false, false, false, false, false, false, false, false] rfl rfl (any_of HT_.out (by kernel_rfl)) (fun _ _ _ h => h) (Or.inl ⟨by rfl, ?_⟩) ?_ ?_
       rotate_left
       ·intro w'
        go_simp
        with_reducible rfl
       rotate_left
       ·simp only [Act.put, List.setIfInBounds_toArray, List.set_cons_zero, List.set_cons_succ, i64_w, i32_w]
        rfl
       refine take_ (i := 0) (N := some 22) (v := ?_) (a' := ?_) #[true, true, true, true, false, false, false, false, false, false, false, false] rfl rfl (take_ofW HT_.out HW_.out (by kernel_rfl)) (fun _ _ _ h => h) (Or.inl ⟨by rfl, ?_⟩) hHeld ?_ ?_
       rotate_left
       ·rintro w' ⟨s0, s1, s2, s3, s4⟩
        go_simp
        with_reducible rfl
       rotate_left
       ·simp only [Act.put, List.setIfInBounds_toArray, List.set_cons_zero, List.set_cons_succ, i64_w, i32_w]
        rfl
       refine take_ (i := 4) (N := some 26) (v := ?_) (a' := ?_) #[true, true, true, true, true, false, false, false, false, false, false, false] rfl rfl (take_ofW HT_.out HW_.out (by kernel_rfl)) (fun _ _ _ h => h) (Or.inl ⟨by rfl, ?_⟩) hHeld ?_ ?_
       rotate_left
       ·rintro w' ⟨s0, s1, s2, s3, s4⟩
        go_simp
        with_reducible rfl
       rotate_left
       ·simp only [Act.put, List.setIfInBounds_toArray, List.set_cons_zero, List.set_cons_succ, i64_w, i32_w]
        rfl
       refine join_ (σ := Value × Nat) 2 #[true, true, true, true, true, true, true, true, true, true, false, false] (fun s_ => [(27, .tuple #[.agg #[s_.1], .bool true]), (8, .pointer (some ⟨s_.2, 0, none⟩)), (21, .tuple #[.agg #[s_.1], .bool true]), (28, .agg #[s_.1]), (29, .bool true)]) (fun s_ w' => (w'.cell? ⟨gb217, 0, none⟩ = some (.slice Ao20 x218000_1.length co20) ∧ w'.cell? (ad218.add ((x7_1).toNat * 4)) = some (.int .i64 ((rd_T35 l1 x7_1).f0)) ∧ w'.cell? ⟨(ad218.add ((x7_1).toNat * 4)).block, (ad218.add ((x7_1).toNat * 4)).off + 1, none⟩ = some (.string ((rd_T35 l1 x7_1).f1)) ∧ w'.cell? ⟨(ad218.add ((x7_1).toNat * 4)).block, (ad218.add ((x7_1).toNat * 4)).off + 2, none⟩ = some (.string ((rd_T35 l1 x7_1).f2)) ∧ w'.cell? ⟨(ad218.add ((x7_1).toNat * 4)).block, (ad218.add ((x7_1).toNat * 4)).off + 3, none⟩ = some (.string ((rd_T35 l1 x7_1).f3))) ∧ (Kd.R k66 66 w' w.heap.size (fun k_ => some k_ ≠ (.slice Ao20 x218000_1.length co20 : Value).ownBlock) s_.1 t219) ∧ (Kd.R k66 66 w' w.heap.size (fun k_ => some k_ ≠ (s_.1 : Value).ownBlock) (.slice Ao20 x218000_1.length co20) x218000_1) ∧ (w'.heap[gb209]? = some (.cells #[.slice A0_0 l0_0.length c0_0] 31 (0, 0))) ∧ (w'.heap[gb210]? = some (.cells #[.slice none 0 0] 31 (0, 0))) ∧ (w'.heap[gb217]? = some (.cells #[.slice Ao20 x218000_1.length co20] 31 (0, 0))) ∧ (w'.heap[s_.2]? = some (.cells #[.slice none 0 0] 31 (0, 0))) ∧ (w.heap.size ≤ s_.2) ∧ (w.heap.size ≤ s_.2) ∧ (gb209 ≠ s_.2) ∧ (s_.2 ≠ gb209) ∧ (gb210 ≠ s_.2) ∧ (s_.2 ≠ gb210) ∧ (gb217 ≠ s_.2) ∧ (s_.2 ≠ gb217) ∧ (Below w.heap.size w w')) ?_ ?_
       rotate_left
       ·intro hCont
        refine two_ (i := 5) (j := 9) (Ni := some 27) (Nj := some 8) #[true, true, true, true, true, true, false, false, false, false, false, false] #[true, true, true, true, true, false, false, false, false, true, false, false] rfl rfl rfl rfl (two_of HT_.out (by kernel_rfl)) (by decide) (by decide) (fun K hK => ?_) (fun K hK => ?_)
        ·skip
         refine goes_ Try.func9 (by kernel_rfl) rfl #[.agg #[.slice Ao20 x218000_1.length co20], .agg #[.int .i64 ((rd_T35 l1 x7_1).f0), .string ((rd_T35 l1 x7_1).f1), .string ((rd_T35 l1 x7_1).f2), .string ((rd_T35 l1 x7_1).f3)]] (by rfl) rfl rfl zr ?_
         with_reducible refine (spec_DoAct.calls k1 _ _ x218000_1 ((rd_T35 l1 x7_1).f0) ((rd_T35 l1 x7_1).f1) ((rd_T35 l1 x7_1).f2) ((rd_T35 l1 x7_1).f3) t219 true _ ?side1 ?side2 A18.out).mono ?_
         (case side1 => repeat (first | exact (Kd.R_reads' HO_218000.out).2.2 | (with_reducible refine Kd.C_alloc ?_ _) | (with_reducible refine Kd.C_drewN ?_ _) | (with_reducible refine Kd.C_drew ?_)))
         (case side2 => exact (Kd.R_reads' HO_218000.out).2.1)
         rintro e w22 ⟨v220, rfl, ho0, hb⟩
         refine ⟨_, rfl, ?_⟩
         have HO221 := am (Kd.R_lower (Kd.R_new' ho0 (Kd.R_lt (rx HO_218000.out))) (below_size (zb3 HB.out GE209.out GE210.out GE217.out)))
         replace HO_218000 := am (Kd.R_elder' (rx HO_218000.out) (Kd.R_base ho0) hb)
         replace BK209 := am (bb hb (kx BK209.out))
         replace BK210 := am (bb hb (kx BK210.out))
         replace BK217 := am (bb hb (kx BK217.out))
         replace HB := am (below_step (zb3 HB.out GE209.out GE210.out GE217.out) hb)
         try clear hb
         try clear hb2
         try clear hk
         try clear hi
         try clear ho0
         refine hK.out _ _ ⟨ct BK217.out 0, ((HB.out.cell (World.block_lt_of_cell? w _ hw218_0)).trans hw218_0), ((HB.out.cell (World.block_lt_of_cell? w _ hw218_1)).trans hw218_1), ((HB.out.cell (World.block_lt_of_cell? w _ hw218_2)).trans hw218_2), ((HB.out.cell (World.block_lt_of_cell? w _ hw218_3)).trans hw218_3)⟩ (fun hHeld => ?_)
         clear hK K
         refine norm_ (a' := ?_) ?_ ?_
         rotate_left
         ·show Act.put _ (some 27) _ = _
          simp only [Act.put, List.setIfInBounds_toArray, List.set_cons_zero, List.set_cons_succ, i64_w, i32_w]
          rfl
         refine pure_ (i := 6) (N := some 21) (v := ?_) (a' := ?_) #[true, true, true, true, true, true, true, false, false, false, false, false] rfl rfl (any_of HT_.out (by kernel_rfl)) (fun _ _ _ h => h) (Or.inl ⟨by rfl, ?_⟩) ?_ ?_
         rotate_left
         ·intro w'
          go_simp
          with_reducible rfl
         rotate_left
         ·simp only [Act.put, List.setIfInBounds_toArray, List.set_cons_zero, List.set_cons_succ, i64_w, i32_w]
          rfl
         refine pure_ (i := 7) (N := some 28) (v := ?_) (a' := ?_) #[true, true, true, true, true, true, true, true, false, false, false, false] rfl rfl (any_of HT_.out (by kernel_rfl)) (fun _ _ _ h => h) (Or.inl ⟨by rfl, ?_⟩) ?_ ?_
         rotate_left
         ·intro w'
          go_simp
          with_reducible rfl
         rotate_left
         ·simp only [Act.put, List.setIfInBounds_toArray, List.set_cons_zero, List.set_cons_succ, i64_w, i32_w]
          rfl
         refine pure_ (i := 8) (N := some 29) (v := ?_) (a' := ?_) #[true, true, true, true, true, true, true, true, true, false, false, false] rfl rfl (any_of HT_.out (by kernel_rfl)) (fun _ _ _ h => h) (Or.inl ⟨by rfl, ?_⟩) ?_ ?_
         rotate_left
         ·intro w'
          go_simp
          with_reducible rfl
         rotate_left
         ·simp only [Act.put, List.setIfInBounds_toArray, List.set_cons_zero, List.set_cons_succ, i64_w, i32_w]
          rfl
         refine one_ (i := 9) (N := some 8) #[true, true, true, true, true, true, true, true, true, true, false, false] rfl rfl (one_of HT_.out (by kernel_rfl)) (by decide) (fun K hK => ?_)
         refine box_step ?hg (N := 8) ?hd (cs := #[.slice none 0 0]) (t := 31) ?hr ?_; (case hd => rfl); (case hg => rfl); (case hr => first | (go_simp; done) | (go_simp; rfl))
         intro gb223 hg w23 hbox hb
         have BK223 := am (hbox)
         have GW223 := zge hg (zb3 HB.out GE209.out GE210.out GE217.out)
         have GE223 := zge hg (zb3 HB.out GE209.out GE210.out GE217.out)
         have NB209_223 := znl hg (kx BK209.out)
         have NB223_209 := zng hg (kx BK209.out)
         have NB210_223 := znl hg (kx BK210.out)
         have NB223_210 := zng hg (kx BK210.out)
         have NB217_223 := znl hg (kx BK217.out)
         have NB223_217 := zng hg (kx BK217.out)
         replace HO_218000 := am (Kd.R_below (rx HO_218000.out) hb)
         replace HO221 := am (Kd.R_below (rx HO221.out) hb)
         replace BK209 := am (bb hb (kx BK209.out))
         replace BK210 := am (bb hb (kx BK210.out))
         replace BK217 := am (bb hb (kx BK217.out))
         replace HB := am (below_step (zb3 HB.out GE209.out GE210.out GE217.out) hb)
         clear hb hbox hg
         refine hK.out _ _ ⟨ct BK217.out 0, ((HB.out.cell (World.block_lt_of_cell? w _ hw218_0)).trans hw218_0), ((HB.out.cell (World.block_lt_of_cell? w _ hw218_1)).trans hw218_1), ((HB.out.cell (World.block_lt_of_cell? w _ hw218_2)).trans hw218_2), ((HB.out.cell (World.block_lt_of_cell? w _ hw218_3)).trans hw218_3)⟩ (fun hHeld => ?_)
         clear hK K
         refine norm_ (a' := ?_) ?_ ?_
         rotate_left
         ·show Act.put _ (some 8) _ = _
          simp only [Act.put, List.setIfInBounds_toArray, List.set_cons_zero, List.set_cons_succ, i64_w, i32_w]
          rfl
         exact norm_ (by simp only [putAll, Act.put, List.setIfInBounds_toArray, List.set_cons_zero, List.set_cons_succ]) (hCont (v220, gb223) _ ⟨hHeld, (rx (Kd.R_mono HO221.out (fun _ hk => hk.2))), (rx (Kd.R_mono HO_218000.out (fun _ hk => hk.2))), (kx BK209.out), (kx BK210.out), (kx BK217.out), (kx BK223.out), GW223.out, GE223.out, NB209_223.out, NB223_209.out, NB210_223.out, NB223_210.out, NB217_223.out, NB223_217.out, (zb4 HB.out GE209.out GE210.out GE217.out GE223.out)⟩)
        ·skip
         refine box_step ?hg (N := 8) ?hd (cs := #[.slice none 0 0]) (t := 31) ?hr ?_; (case hd => rfl); (case hg => rfl); (case hr => first | (go_simp; done) | (go_simp; rfl))
         intro gb223 hg w22 hbox hb
         have BK223 := am (hbox)
         have GW223 := zge hg (zb3 HB.out GE209.out GE210.out GE217.out)
         have GE223 := zge hg (zb3 HB.out GE209.out GE210.out GE217.out)
         have NB209_223 := znl hg (kx BK209.out)
         have NB223_209 := zng hg (kx BK209.out)
         have NB210_223 := znl hg (kx BK210.out)
         have NB223_210 := zng hg (kx BK210.out)
         have NB217_223 := znl hg (kx BK217.out)
         have NB223_217 := zng hg (kx BK217.out)
         replace HO_218000 := am (Kd.R_below (rx HO_218000.out) hb)
         replace BK209 := am (bb hb (kx BK209.out))
         replace BK210 := am (bb hb (kx BK210.out))
         replace BK217 := am (bb hb (kx BK217.out))
         replace HB := am (below_step (zb3 HB.out GE209.out GE210.out GE217.out) hb)
         clear hb hbox hg
         refine hK.out _ _ ⟨ct BK217.out 0, ((HB.out.cell (World.block_lt_of_cell? w _ hw218_0)).trans hw218_0), ((HB.out.cell (World.block_lt_of_cell? w _ hw218_1)).trans hw218_1), ((HB.out.cell (World.block_lt_of_cell? w _ hw218_2)).trans hw218_2), ((HB.out.cell (World.block_lt_of_cell? w _ hw218_3)).trans hw218_3)⟩ (fun hHeld => ?_)
         clear hK K
         refine norm_ (a' := ?_) ?_ ?_
         rotate_left
         ·show Act.put _ (some 8) _ = _
          simp only [Act.put, List.setIfInBounds_toArray, List.set_cons_zero, List.set_cons_succ, i64_w, i32_w]
          rfl
         refine one_ (i := 5) (N := some 27) #[true, true, true, true, true, true, false, false, false, true, false, false] rfl rfl (one_of HT_.out (by kernel_rfl)) (by decide) (fun K hK => ?_)
         refine goes_ Try.func9 (by kernel_rfl) rfl #[.agg #[.slice Ao20 x218000_1.length co20], .agg #[.int .i64 ((rd_T35 l1 x7_1).f0), .string ((rd_T35 l1 x7_1).f1), .string ((rd_T35 l1 x7_1).f2), .string ((rd_T35 l1 x7_1).f3)]] (by rfl) rfl rfl zr ?_
         with_reducible refine (spec_DoAct.calls k1 _ _ x218000_1 ((rd_T35 l1 x7_1).f0) ((rd_T35 l1 x7_1).f1) ((rd_T35 l1 x7_1).f2) ((rd_T35 l1 x7_1).f3) t219 true _ ?side1 ?side2 A18.out).mono ?_
         (case side1 => repeat (first | exact (Kd.R_reads' HO_218000.out).2.2 | (with_reducible refine Kd.C_alloc ?_ _) | (with_reducible refine Kd.C_drewN ?_ _) | (with_reducible refine Kd.C_drew ?_)))
         (case side2 => exact (Kd.R_reads' HO_218000.out).2.1)
         rintro e w23 ⟨v220, rfl, ho0, hb⟩
         refine ⟨_, rfl, ?_⟩
         have HO221 := am (Kd.R_lower (Kd.R_new' ho0 (Kd.R_lt (rx HO_218000.out))) (below_size (zb4 HB.out GE209.out GE210.out GE217.out GE223.out)))
         replace HO_218000 := am (Kd.R_elder' (rx HO_218000.out) (Kd.R_base ho0) hb)
         replace BK209 := am (bb hb (kx BK209.out))
         replace BK210 := am (bb hb (kx BK210.out))
         replace BK217 := am (bb hb (kx BK217.out))
         replace BK223 := am (bb hb (kx BK223.out))
         replace HB := am (below_step (zb4 HB.out GE209.out GE210.out GE217.out GE223.out) hb)
         try clear hb
         try clear hb2
         try clear hk
         try clear hi
         try clear ho0
         refine hK.out _ _ ⟨ct BK217.out 0, ((HB.out.cell (World.block_lt_of_cell? w _ hw218_0)).trans hw218_0), ((HB.out.cell (World.block_lt_of_cell? w _ hw218_1)).trans hw218_1), ((HB.out.cell (World.block_lt_of_cell? w _ hw218_2)).trans hw218_2), ((HB.out.cell (World.block_lt_of_cell? w _ hw218_3)).trans hw218_3)⟩ (fun hHeld => ?_)
         clear hK K
         refine norm_ (a' := ?_) ?_ ?_
         rotate_left
         ·show Act.put _ (some 27) _ = _
          simp only [Act.put, List.setIfInBounds_toArray, List.set_cons_zero, List.set_cons_succ, i64_w, i32_w]
          rfl
         refine pure_ (i := 6) (N := some 21) (v := ?_) (a' := ?_) #[true, true, true, true, true, true, true, false, false, true, false, false] rfl rfl (any_of HT_.out (by kernel_rfl)) (fun _ _ _ h => h) (Or.inl ⟨by rfl, ?_⟩) ?_ ?_
         rotate_left
         ·intro w'
          go_simp
          with_reducible rfl
         rotate_left
         ·simp only [Act.put, List.setIfInBounds_toArray, List.set_cons_zero, List.set_cons_succ, i64_w, i32_w]
          rfl
         refine pure_ (i := 7) (N := some 28) (v := ?_) (a' := ?_) #[true, true, true, true, true, true, true, true, false, true, false, false] rfl rfl (any_of HT_.out (by kernel_rfl)) (fun _ _ _ h => h) (Or.inl ⟨by rfl, ?_⟩) ?_ ?_
         rotate_left
         ·intro w'
          go_simp
          with_reducible rfl
         rotate_left
         ·simp only [Act.put, List.setIfInBounds_toArray, List.set_cons_zero, List.set_cons_succ, i64_w, i32_w]
          rfl
         refine pure_ (i := 8) (N := some 29) (v := ?_) (a' := ?_) #[true, true, true, true, true, true, true, true, true, true, false, false] rfl rfl (any_of HT_.out (by kernel_rfl)) (fun _ _ _ h => h) (Or.inl ⟨by rfl, ?_⟩) ?_ ?_
         rotate_left
         ·intro w'
          go_simp
          with_reducible rfl
         rotate_left
         ·simp only [Act.put, List.setIfInBounds_toArray, List.set_cons_zero, List.set_cons_succ, i64_w, i32_w]
          rfl
         exact norm_ (by simp only [putAll, Act.put, List.setIfInBounds_toArray, List.set_cons_zero, List.set_cons_succ]) (hCont (v220, gb223) _ ⟨hHeld, (rx (Kd.R_mono HO221.out (fun _ hk => hk.2))), (rx (Kd.R_mono HO_218000.out (fun _ hk => hk.2))), (kx BK209.out), (kx BK210.out), (kx BK217.out), (kx BK223.out), GW223.out, GE223.out, NB209_223.out, NB223_209.out, NB210_223.out, NB223_210.out, NB217_223.out, NB223_217.out, (zb4 HB.out GE209.out GE210.out GE217.out GE223.out)⟩)
       rintro ⟨v220, gb223⟩ w24 ⟨hS_, h0_, h1_, h2_, h3_, h4_, h5_, h6_, h7_, h8_, h9_, h10_, h11_, h12_, h13_, h14_⟩
       have n0_ : Aside0 (Kd.R k66 66 w24 w.heap.size (fun k_ => some k_ ≠ (.slice Ao20 x218000_1.length co20 : Value).ownBlock) v220 t219) := ⟨h0_⟩
       have n1_ : Aside0 (Kd.R k66 66 w24 w.heap.size (fun k_ => some k_ ≠ (v220 : Value).ownBlock) (.slice Ao20 x218000_1.length co20) x218000_1) := ⟨h1_⟩
       have n2_ : Aside0 (w24.heap[gb209]? = some (.cells #[.slice A0_0 l0_0.length c0_0] 31 (0, 0))) := ⟨h2_⟩
       have n3_ : Aside0 (w24.heap[gb210]? = some (.cells #[.slice none 0 0] 31 (0, 0))) := ⟨h3_⟩
       have n4_ : Aside0 (w24.heap[gb217]? = some (.cells #[.slice Ao20 x218000_1.length co20] 31 (0, 0))) := ⟨h4_⟩
       have n5_ : Aside0 (w24.heap[gb223]? = some (.cells #[.slice none 0 0] 31 (0, 0))) := ⟨h5_⟩
       have n6_ : Aside0 (w.heap.size ≤ gb223) := ⟨h6_⟩
       have n7_ : Aside0 (w.heap.size ≤ gb223) := ⟨h7_⟩
       have n8_ : Aside0 (gb209 ≠ gb223) := ⟨h8_⟩
       have n9_ : Aside0 (gb223 ≠ gb209) := ⟨h9_⟩
       have n10_ : Aside0 (gb210 ≠ gb223) := ⟨h10_⟩
       have n11_ : Aside0 (gb223 ≠ gb210) := ⟨h11_⟩
       have n12_ : Aside0 (gb217 ≠ gb223) := ⟨h12_⟩
       have n13_ : Aside0 (gb223 ≠ gb217) := ⟨h13_⟩
       have n14_ : Aside0 (Below w.heap.size w w24) := ⟨h14_⟩
       clear HO_218000 BK209 BK210 BK217 HB h0_ h1_ h2_ h3_ h4_ h5_ h6_ h7_ h8_ h9_ h10_ h11_ h12_ h13_ h14_
       have HO221 := n0_
       have HO_218000 := n1_
       have BK209 := n2_
       have BK210 := n3_
       have BK217 := n4_
       have BK223 := n5_
       have GW223 := n6_
       have GE223 := n7_
       have NB209_223 := n8_
       have NB223_209 := n9_
       have NB210_223 := n10_
       have NB223_210 := n11_
       have NB217_223 := n12_
       have NB223_217 := n13_
       have HB := n14_
       clear n0_ n1_ n2_ n3_ n4_ n5_ n6_ n7_ n8_ n9_ n10_ n11_ n12_ n13_ n14_
       have hHeld : w24.cell? ⟨gb217, 0, none⟩ = some (.slice Ao20 x218000_1.length co20) ∧ w24.cell? (ad218.add ((x7_1).toNat * 4)) = some (.int .i64 ((rd_T35 l1 x7_1).f0)) ∧ w24.cell? ⟨(ad218.add ((x7_1).toNat * 4)).block, (ad218.add ((x7_1).toNat * 4)).off + 1, none⟩ = some (.string ((rd_T35 l1 x7_1).f1)) ∧ w24.cell? ⟨(ad218.add ((x7_1).toNat * 4)).block, (ad218.add ((x7_1).toNat * 4)).off + 2, none⟩ = some (.string ((rd_T35 l1 x7_1).f2)) ∧ w24.cell? ⟨(ad218.add ((x7_1).toNat * 4)).block, (ad218.add ((x7_1).toNat * 4)).off + 3, none⟩ = some (.string ((rd_T35 l1 x7_1).f3)) := hS_
       obtain ⟨Ao25, co25, eo25⟩ := Kd.R_slice HO221.out
       (first | subst eo25 | (injection eo25 with f1_ f2_ f3_; have f4_ := f1_.symm; have f5_ := f3_.symm; clear f1_ f2_ f3_; subst f4_; subst f5_))
       refine norm_ (a' := ?_) ?_ ?_
       rotate_left
       ·simp only [putAll, Act.put, List.setIfInBounds_toArray, List.set_cons_zero, List.set_cons_succ]
        rfl
       refine one_ (i := 10) (N := none) #[true, true, true, true, true, true, true, true, true, true, true, false] rfl rfl (one_of HT_.out (by kernel_rfl)) (by decide) (fun K hK => ?_)
       have hs26 : w24.cell? ⟨gb223, 0, none⟩ = some (.slice none 0 0) := ct BK223.out 0
       have hfs26 := blk_frozen BK223.out 0
       have hns26_0 := NB209_223.out
       have hns26_1 := NB210_223.out
       have hns26_2 := NB217_223.out
       have hms26_0 := NB223_209.out
       have hms26_1 := NB223_210.out
       have hms26_2 := NB223_217.out
       refine skip_ (w1 := ?_) (by rfl) rfl ?_ ?_
       rotate_left
       ·go_simp
        rfl
       refine hK.out _ _ ⟨((cell_far (p := ⟨gb223, _, none⟩) NB217_223.out _).trans (hHeld.1)), ((cell_far (p := ⟨gb223, _, none⟩) (by first | exact Nat.ne_of_lt (Nat.lt_of_lt_of_le (by have := World.block_lt_of_cell? _ _ hw218_0; first | rwa [add_block] at this | exact this) GW223.out) | (rw [add_block]; exact Nat.ne_of_lt (Nat.lt_of_lt_of_le (by have := World.block_lt_of_cell? _ _ hw218_0; first | rwa [add_block] at this | exact this) GW223.out)) | (show (Addr.add _ _).block ≠ _; rw [add_block]; exact Nat.ne_of_lt (Nat.lt_of_lt_of_le (by have := World.block_lt_of_cell? _ _ hw218_0; first | rwa [add_block] at this | exact this) GW223.out)) | (dsimp only; exact Nat.ne_of_lt (Nat.lt_of_lt_of_le (by have := World.block_lt_of_cell? _ _ hw218_0; first | rwa [add_block] at this | exact this) GW223.out))) _).trans (hHeld.2.1)), ((cell_far (p := ⟨gb223, _, none⟩) (by first | exact Nat.ne_of_lt (Nat.lt_of_lt_of_le (by have := World.block_lt_of_cell? _ _ hw218_1; first | rwa [add_block] at this | exact this) GW223.out) | (rw [add_block]; exact Nat.ne_of_lt (Nat.lt_of_lt_of_le (by have := World.block_lt_of_cell? _ _ hw218_1; first | rwa [add_block] at this | exact this) GW223.out)) | (show (Addr.add _ _).block ≠ _; rw [add_block]; exact Nat.ne_of_lt (Nat.lt_of_lt_of_le (by have := World.block_lt_of_cell? _ _ hw218_1; first | rwa [add_block] at this | exact this) GW223.out)) | (dsimp only; exact Nat.ne_of_lt (Nat.lt_of_lt_of_le (by have := World.block_lt_of_cell? _ _ hw218_1; first | rwa [add_block] at this | exact this) GW223.out))) _).trans (hHeld.2.2.1)), ((cell_far (p := ⟨gb223, _, none⟩) (by first | exact Nat.ne_of_lt (Nat.lt_of_lt_of_le (by have := World.block_lt_of_cell? _ _ hw218_2; first | rwa [add_block] at this | exact this) GW223.out) | (rw [add_block]; exact Nat.ne_of_lt (Nat.lt_of_lt_of_le (by have := World.block_lt_of_cell? _ _ hw218_2; first | rwa [add_block] at this | exact this) GW223.out)) | (show (Addr.add _ _).block ≠ _; rw [add_block]; exact Nat.ne_of_lt (Nat.lt_of_lt_of_le (by have := World.block_lt_of_cell? _ _ hw218_2; first | rwa [add_block] at this | exact this) GW223.out)) | (dsimp only; exact Nat.ne_of_lt (Nat.lt_of_lt_of_le (by have := World.block_lt_of_cell? _ _ hw218_2; first | rwa [add_block] at this | exact this) GW223.out))) _).trans (hHeld.2.2.2.1)), ((cell_far (p := ⟨gb223, _, none⟩) (by first | exact Nat.ne_of_lt (Nat.lt_of_lt_of_le (by have := World.block_lt_of_cell? _ _ hw218_3; first | rwa [add_block] at this | exact this) GW223.out) | (rw [add_block]; exact Nat.ne_of_lt (Nat.lt_of_lt_of_le (by have := World.block_lt_of_cell? _ _ hw218_3; first | rwa [add_block] at this | exact this) GW223.out)) | (show (Addr.add _ _).block ≠ _; rw [add_block]; exact Nat.ne_of_lt (Nat.lt_of_lt_of_le (by have := World.block_lt_of_cell? _ _ hw218_3; first | rwa [add_block] at this | exact this) GW223.out)) | (dsimp only; exact Nat.ne_of_lt (Nat.lt_of_lt_of_le (by have := World.block_lt_of_cell? _ _ hw218_3; first | rwa [add_block] at this | exact this) GW223.out))) _).trans (hHeld.2.2.2.2))⟩ (fun hHeld => ?_)
       clear hK K
       refine pure_ (i := 11) (N := some 9) (v := ?_) (a' := ?_) #[true, true, true, true, true, true, true, true, true, true, true, true] rfl rfl (any_of HT_.out (by kernel_rfl)) (fun _ _ _ h => h) (Or.inl ⟨by rfl, ?_⟩) ?_ ?_
       rotate_left
       ·intro w'
        go_simp
        with_reducible rfl
       rotate_left
       ·simp only [Act.put, List.setIfInBounds_toArray, List.set_cons_zero, List.set_cons_succ, i64_w, i32_w]
        rfl
       refine done_ (done_of HT_.out (by kernel_rfl)) ?_
       have hnb27 := NB223_209.out
       have hnc27 := NB209_223.out
       have hnb28 := NB223_210.out
       have hnc28 := NB210_223.out
       have hnb29 := NB223_217.out
       have hnc29 := NB217_223.out
       obtain ⟨hcz30_0, hfz30_0⟩ := zc1 BK223.out
       have hnb31 := NB217_209.out
       have hnc31 := NB209_217.out
       have hnb32 := NB217_210.out
       have hnc32 := NB210_217.out
       obtain ⟨hcz33_0, hfz33_0⟩ := zc1 BK217.out
       try go_wp2
       go_roundg k1
       case measure => have := HK1.out; omega
       case rel => exact ⟨(wrap64 (x7_1 + 1)), (t219), (.slice Ao25 t219.length co25), (by first | rfl | (simp; done) | (simp [*]; done)), H', ⟨by have := HK1.out; omega⟩, ⟨rx (Kd.R_mono (Kd.R_far (p := ⟨gb217, 0, none⟩) (Kd.R_far (p := ⟨gb223, 0, none⟩) (Kd.R_types (Kd.R_types HO221.out BK223.out (by decide)) BK217.out (by decide)) (fun _ hk => hk.1.2) (.slice Ao25 t219.length co25)) (fun _ hk => hk.2) (.slice Ao25 t219.length co25)) (fun _ hk => trivial))⟩, ⟨zf2 BK209.out NB209_217.out NB209_223.out⟩, ⟨zf2 BK210.out NB210_217.out NB210_223.out⟩, ⟨by (with_reducible repeat (first | refine blk_drewN ?_ _ | refine blk_drew ?_ | refine blk_alloc ?_ _)); refine blk_put (cs := #[.slice Ao20 x218000_1.length co20]) ?_ 0 _ rfl; (with_reducible repeat (first | refine blk_drewN ?_ _ | refine blk_drew ?_ | refine blk_alloc ?_ _)); refine blk_far ?_ NB217_223.out _; (with_reducible repeat (first | refine blk_drewN ?_ _ | refine blk_drew ?_ | refine blk_alloc ?_ _)); exact BK217.out⟩, ⟨zb4 HB.out GE209.out GE210.out GE217.out GE223.out⟩⟩
      ·replace c19 := Bool.eq_false_iff.mpr c19
       subst c19
       have H1 : (some (x218000_1, x7_1)) = some (r1, r2) := by rw [if_neg (show ¬ (false = true) by decide)] at H; exact H
       clear H
       have H := H1
       clear H1
       simp only [Option.some.injEq, Prod.mk.injEq] at H
       obtain ⟨rfl, rfl⟩ := H
       obtain ⟨Ao34, co34, eo34⟩ := Kd.R_slice HO_218000.out
       subst eo34
       try go_wp2
       replace HO_218000 := am (Kd.R_drew HO_218000.out)
       replace BK209 := am (blk_drew BK209.out)
       replace BK210 := am (blk_drew BK210.out)
       replace BK217 := am (blk_drew BK217.out)
       replace HB := am (below_drew1 HB.out)
       have p218 : 0 ≤ (x7_1 : Int) := of_decide_eq_true (by first | (with_reducible assumption) | assumption)
       have q218 : x7_1 < (l1.length : Int) := of_decide_eq_true (by first | (with_reducible assumption) | assumption)
       obtain ⟨ad218, e218, hx218_0, hx218_1, hx218_2, hx218_3⟩ := at_T35 HR1.out x7_1 p218 q218
       have hw218_3 := hx218_3
       have hw218_2 := hx218_2
       have hw218_1 := hx218_1
       have hw218_0 := hx218_0
       cases e218
       replace hx218_0 := (HB.out.cell (World.block_lt_of_cell? w _ hx218_0)).trans hx218_0
       replace hx218_1 := (HB.out.cell (World.block_lt_of_cell? w _ hx218_1)).trans hx218_1
       replace hx218_2 := (HB.out.cell (World.block_lt_of_cell? w _ hx218_2)).trans hx218_2
       replace hx218_3 := (HB.out.cell (World.block_lt_of_cell? w _ hx218_3)).trans hx218_3
       replace p218 := eq_true p218
       replace q218 := eq_true q218
       refine start_ (n := 12) (S := fun w' => w'.cell? ⟨gb217, 0, none⟩ = some (.slice Ao34 x218000_1.length co34) ∧ w'.cell? (ad218.add ((x7_1).toNat * 4)) = some (.int .i64 ((rd_T35 l1 x7_1).f0)) ∧ w'.cell? ⟨(ad218.add ((x7_1).toNat * 4)).block, (ad218.add ((x7_1).toNat * 4)).off + 1, none⟩ = some (.string ((rd_T35 l1 x7_1).f1)) ∧ w'.cell? ⟨(ad218.add ((x7_1).toNat * 4)).block, (ad218.add ((x7_1).toNat * 4)).off + 2, none⟩ = some (.string ((rd_T35 l1 x7_1).f2)) ∧ w'.cell? ⟨(ad218.add ((x7_1).toNat * 4)).block, (ad218.add ((x7_1).toNat * 4)).off + 3, none⟩ = some (.string ((rd_T35 l1 x7_1).f3))) (ds := []) #[false, false, false, false, false, false, false, false, false, false, false, false] (by kernel_rfl) rfl rfl ⟨ct BK217.out 0, ((HB.out.cell (World.block_lt_of_cell? w _ hw218_0)).trans hw218_0), ((HB.out.cell (World.block_lt_of_cell? w _ hw218_1)).trans hw218_1), ((HB.out.cell (World.block_lt_of_cell? w _ hw218_2)).trans hw218_2), ((HB.out.cell (World.block_lt_of_cell? w _ hw218_3)).trans hw218_3)⟩ (fun hHeld => ?_); refine with_tabW spec_DoActs.tab5 spec_DoActs.bits5 (fun HT_ HW_ => ?_)
       generalize wr.drew = w35 at HO_218000 BK209 BK210 BK217 HB hx218_0 hx218_1 hx218_2 hx218_3 hHeld ⊢
       refine pure_ (i := 1) (N := some 23) (v := ?_) (a' := ?_) #[false, true, false, false, false, false, false, false, false, false, false, false] rfl rfl (any_of HT_.out (by kernel_rfl)) (fun _ _ _ h => h) (Or.inl ⟨by rfl, ?_⟩) ?_ ?_
       rotate_left
       ·intro w'
        go_simp
        with_reducible rfl
       rotate_left
       ·simp only [Act.put, List.setIfInBounds_toArray, List.set_cons_zero, List.set_cons_succ, i64_w, i32_w]
        rfl
       refine pure_ (i := 2) (N := some 24) (v := ?_) (a' := ?_) #[false, true, true, false, false, false, false, false, false, false, false, false] rfl rfl (any_of HT_.out (by kernel_rfl)) (fun _ _ _ h => h) (Or.inl ⟨by rfl, ?_⟩) ?_ ?_
       rotate_left
       ·intro w'
        go_simp
        with_reducible rfl
       rotate_left
       ·simp only [Act.put, List.setIfInBounds_toArray, List.set_cons_zero, List.set_cons_succ, i64_w, i32_w]
        rfl
       refine pure_ (i := 3) (N := some 25) (v := ?_) (a' := ?_) #[false, true, true, true, false, false, false, false, false, false, false, false] rfl rfl (any_of HT_.out (by kernel_rfl)) (fun _ _ _ h => h) (Or.inl ⟨by rfl, ?_⟩) ?_ ?_
       rotate_left
       ·intro w'
        go_simp
        with_reducible rfl
       rotate_left
       ·simp only [Act.put, List.setIfInBounds_toArray, List.set_cons_zero, List.set_cons_succ, i64_w, i32_w]
        rfl
       refine take_ (i := 0) (N := some 22) (v := ?_) (a' := ?_) #[true, true, true, true, false, false, false, false, false, false, false, false] rfl rfl (take_ofW HT_.out HW_.out (by kernel_rfl)) (fun _ _ _ h => h) (Or.inl ⟨by rfl, ?_⟩) hHeld ?_ ?_
       rotate_left
       ·rintro w' ⟨s0, s1, s2, s3, s4⟩
        go_simp
        with_reducible rfl
       rotate_left
       ·simp only [Act.put, List.setIfInBounds_toArray, List.set_cons_zero, List.set_cons_succ, i64_w, i32_w]
        rfl
       refine take_ (i := 4) (N := some 26) (v := ?_) (a' := ?_) #[true, true, true, true, true, false, false, false, false, false, false, false] rfl rfl (take_ofW HT_.out HW_.out (by kernel_rfl)) (fun _ _ _ h => h) (Or.inl ⟨by rfl, ?_⟩) hHeld ?_ ?_
       rotate_left
       ·rintro w' ⟨s0, s1, s2, s3, s4⟩
        go_simp
        with_reducible rfl
       rotate_left
       ·simp only [Act.put, List.setIfInBounds_toArray, List.set_cons_zero, List.set_cons_succ, i64_w, i32_w]
        rfl
       refine join_ (σ := Value × Nat) 2 #[true, true, true, true, true, true, true, true, true, true, false, false] (fun s_ => [(27, .tuple #[.agg #[s_.1], .bool false]), (8, .pointer (some ⟨s_.2, 0, none⟩)), (21, .tuple #[.agg #[s_.1], .bool false]), (28, .agg #[s_.1]), (29, .bool false)]) (fun s_ w' => (w'.cell? ⟨gb217, 0, none⟩ = some (.slice Ao34 x218000_1.length co34) ∧ w'.cell? (ad218.add ((x7_1).toNat * 4)) = some (.int .i64 ((rd_T35 l1 x7_1).f0)) ∧ w'.cell? ⟨(ad218.add ((x7_1).toNat * 4)).block, (ad218.add ((x7_1).toNat * 4)).off + 1, none⟩ = some (.string ((rd_T35 l1 x7_1).f1)) ∧ w'.cell? ⟨(ad218.add ((x7_1).toNat * 4)).block, (ad218.add ((x7_1).toNat * 4)).off + 2, none⟩ = some (.string ((rd_T35 l1 x7_1).f2)) ∧ w'.cell? ⟨(ad218.add ((x7_1).toNat * 4)).block, (ad218.add ((x7_1).toNat * 4)).off + 3, none⟩ = some (.string ((rd_T35 l1 x7_1).f3))) ∧ (Kd.R k66 66 w' w.heap.size (fun k_ => some k_ ≠ (.slice Ao34 x218000_1.length co34 : Value).ownBlock) s_.1 t219) ∧ (Kd.R k66 66 w' w.heap.size (fun k_ => some k_ ≠ (s_.1 : Value).ownBlock) (.slice Ao34 x218000_1.length co34) x218000_1) ∧ (w'.heap[gb209]? = some (.cells #[.slice A0_0 l0_0.length c0_0] 31 (0, 0))) ∧ (w'.heap[gb210]? = some (.cells #[.slice none 0 0] 31 (0, 0))) ∧ (w'.heap[gb217]? = some (.cells #[.slice Ao34 x218000_1.length co34] 31 (0, 0))) ∧ (w'.heap[s_.2]? = some (.cells #[.slice none 0 0] 31 (0, 0))) ∧ (w.heap.size ≤ s_.2) ∧ (w.heap.size ≤ s_.2) ∧ (gb209 ≠ s_.2) ∧ (s_.2 ≠ gb209) ∧ (gb210 ≠ s_.2) ∧ (s_.2 ≠ gb210) ∧ (gb217 ≠ s_.2) ∧ (s_.2 ≠ gb217) ∧ (Below w.heap.size w w')) ?_ ?_
       rotate_left
       ·intro hCont
        refine two_ (i := 5) (j := 9) (Ni := some 27) (Nj := some 8) #[true, true, true, true, true, true, false, false, false, false, false, false] #[true, true, true, true, true, false, false, false, false, true, false, false] rfl rfl rfl rfl (two_of HT_.out (by kernel_rfl)) (by decide) (by decide) (fun K hK => ?_) (fun K hK => ?_)
        ·skip
         refine goes_ Try.func9 (by kernel_rfl) rfl #[.agg #[.slice Ao34 x218000_1.length co34], .agg #[.int .i64 ((rd_T35 l1 x7_1).f0), .string ((rd_T35 l1 x7_1).f1), .string ((rd_T35 l1 x7_1).f2), .string ((rd_T35 l1 x7_1).f3)]] (by rfl) rfl rfl zr ?_
         with_reducible refine (spec_DoAct.calls k1 _ _ x218000_1 ((rd_T35 l1 x7_1).f0) ((rd_T35 l1 x7_1).f1) ((rd_T35 l1 x7_1).f2) ((rd_T35 l1 x7_1).f3) t219 false _ ?side1 ?side2 A18.out).mono ?_
         (case side1 => repeat (first | exact (Kd.R_reads' HO_218000.out).2.2 | (with_reducible refine Kd.C_alloc ?_ _) | (with_reducible refine Kd.C_drewN ?_ _) | (with_reducible refine Kd.C_drew ?_)))
         (case side2 => exact (Kd.R_reads' HO_218000.out).2.1)
         rintro e w36 ⟨v220, rfl, ho0, hb⟩
         refine ⟨_, rfl, ?_⟩
         have HO221 := am (Kd.R_lower (Kd.R_new' ho0 (Kd.R_lt (rx HO_218000.out))) (below_size (zb3 HB.out GE209.out GE210.out GE217.out)))
         replace HO_218000 := am (Kd.R_elder' (rx HO_218000.out) (Kd.R_base ho0) hb)
         replace BK209 := am (bb hb (kx BK209.out))
         replace BK210 := am (bb hb (kx BK210.out))
         replace BK217 := am (bb hb (kx BK217.out))
         replace HB := am (below_step (zb3 HB.out GE209.out GE210.out GE217.out) hb)
         try clear hb
         try clear hb2
         try clear hk
         try clear hi
         try clear ho0
         refine hK.out _ _ ⟨ct BK217.out 0, ((HB.out.cell (World.block_lt_of_cell? w _ hw218_0)).trans hw218_0), ((HB.out.cell (World.block_lt_of_cell? w _ hw218_1)).trans hw218_1), ((HB.out.cell (World.block_lt_of_cell? w _ hw218_2)).trans hw218_2), ((HB.out.cell (World.block_lt_of_cell? w _ hw218_3)).trans hw218_3)⟩ (fun hHeld => ?_)
         clear hK K
         refine norm_ (a' := ?_) ?_ ?_
         rotate_left
         ·show Act.put _ (some 27) _ = _
          simp only [Act.put, List.setIfInBounds_toArray, List.set_cons_zero, List.set_cons_succ, i64_w, i32_w]
          rfl
         refine pure_ (i := 6) (N := some 21) (v := ?_) (a' := ?_) #[true, true, true, true, true, true, true, false, false, false, false, false] rfl rfl (any_of HT_.out (by kernel_rfl)) (fun _ _ _ h => h) (Or.inl ⟨by rfl, ?_⟩) ?_ ?_
         rotate_left
         ·intro w'
          go_simp
          with_reducible rfl
         rotate_left
         ·simp only [Act.put, List.setIfInBounds_toArray, List.set_cons_zero, List.set_cons_succ, i64_w, i32_w]
          rfl
         refine pure_ (i := 7) (N := some 28) (v := ?_) (a' := ?_) #[true, true, true, true, true, true, true, true, false, false, false, false] rfl rfl (any_of HT_.out (by kernel_rfl)) (fun _ _ _ h => h) (Or.inl ⟨by rfl, ?_⟩) ?_ ?_
         rotate_left
         ·intro w'
          go_simp
          with_reducible rfl
         rotate_left
         ·simp only [Act.put, List.setIfInBounds_toArray, List.set_cons_zero, List.set_cons_succ, i64_w, i32_w]
          rfl
         refine pure_ (i := 8) (N := some 29) (v := ?_) (a' := ?_) #[true, true, true, true, true, true, true, true, true, false, false, false] rfl rfl (any_of HT_.out (by kernel_rfl)) (fun _ _ _ h => h) (Or.inl ⟨by rfl, ?_⟩) ?_ ?_
         rotate_left
         ·intro w'
          go_simp
          with_reducible rfl
         rotate_left
         ·simp only [Act.put, List.setIfInBounds_toArray, List.set_cons_zero, List.set_cons_succ, i64_w, i32_w]
          rfl
         refine one_ (i := 9) (N := some 8) #[true, true, true, true, true, true, true, true, true, true, false, false] rfl rfl (one_of HT_.out (by kernel_rfl)) (by decide) (fun K hK => ?_)
         refine box_step ?hg (N := 8) ?hd (cs := #[.slice none 0 0]) (t := 31) ?hr ?_; (case hd => rfl); (case hg => rfl); (case hr => first | (go_simp; done) | (go_simp; rfl))
         intro gb223 hg w37 hbox hb
         have BK223 := am (hbox)
         have GW223 := zge hg (zb3 HB.out GE209.out GE210.out GE217.out)
         have GE223 := zge hg (zb3 HB.out GE209.out GE210.out GE217.out)
         have NB209_223 := znl hg (kx BK209.out)
         have NB223_209 := zng hg (kx BK209.out)
         have NB210_223 := znl hg (kx BK210.out)
         have NB223_210 := zng hg (kx BK210.out)
         have NB217_223 := znl hg (kx BK217.out)
         have NB223_217 := zng hg (kx BK217.out)
         replace HO_218000 := am (Kd.R_below (rx HO_218000.out) hb)
         replace HO221 := am (Kd.R_below (rx HO221.out) hb)
         replace BK209 := am (bb hb (kx BK209.out))
         replace BK210 := am (bb hb (kx BK210.out))
         replace BK217 := am (bb hb (kx BK217.out))
         replace HB := am (below_step (zb3 HB.out GE209.out GE210.out GE217.out) hb)
         clear hb hbox hg
         refine hK.out _ _ ⟨ct BK217.out 0, ((HB.out.cell (World.block_lt_of_cell? w _ hw218_0)).trans hw218_0), ((HB.out.cell (World.block_lt_of_cell? w _ hw218_1)).trans hw218_1), ((HB.out.cell (World.block_lt_of_cell? w _ hw218_2)).trans hw218_2), ((HB.out.cell (World.block_lt_of_cell? w _ hw218_3)).trans hw218_3)⟩ (fun hHeld => ?_)
         clear hK K
         refine norm_ (a' := ?_) ?_ ?_
         rotate_left
         ·show Act.put _ (some 8) _ = _
          simp only [Act.put, List.setIfInBounds_toArray, List.set_cons_zero, List.set_cons_succ, i64_w, i32_w]
          rfl
         exact norm_ (by simp only [putAll, Act.put, List.setIfInBounds_toArray, List.set_cons_zero, List.set_cons_succ]) (hCont (v220, gb223) _ ⟨hHeld, (rx (Kd.R_mono HO221.out (fun _ hk => hk.2))), (rx (Kd.R_mono HO_218000.out (fun _ hk => hk.2))), (kx BK209.out), (kx BK210.out), (kx BK217.out), (kx BK223.out), GW223.out, GE223.out, NB209_223.out, NB223_209.out, NB210_223.out, NB223_210.out, NB217_223.out, NB223_217.out, (zb4 HB.out GE209.out GE210.out GE217.out GE223.out)⟩)
        ·skip
         refine box_step ?hg (N := 8) ?hd (cs := #[.slice none 0 0]) (t := 31) ?hr ?_; (case hd => rfl); (case hg => rfl); (case hr => first | (go_simp; done) | (go_simp; rfl))
         intro gb223 hg w36 hbox hb
         have BK223 := am (hbox)
         have GW223 := zge hg (zb3 HB.out GE209.out GE210.out GE217.out)
         have GE223 := zge hg (zb3 HB.out GE209.out GE210.out GE217.out)
         have NB209_223 := znl hg (kx BK209.out)
         have NB223_209 := zng hg (kx BK209.out)
         have NB210_223 := znl hg (kx BK210.out)
         have NB223_210 := zng hg (kx BK210.out)
         have NB217_223 := znl hg (kx BK217.out)
         have NB223_217 := zng hg (kx BK217.out)
         replace HO_218000 := am (Kd.R_below (rx HO_218000.out) hb)
         replace BK209 := am (bb hb (kx BK209.out))
         replace BK210 := am (bb hb (kx BK210.out))
         replace BK217 := am (bb hb (kx BK217.out))
         replace HB := am (below_step (zb3 HB.out GE209.out GE210.out GE217.out) hb)
         clear hb hbox hg
         refine hK.out _ _ ⟨ct BK217.out 0, ((HB.out.cell (World.block_lt_of_cell? w _ hw218_0)).trans hw218_0), ((HB.out.cell (World.block_lt_of_cell? w _ hw218_1)).trans hw218_1), ((HB.out.cell (World.block_lt_of_cell? w _ hw218_2)).trans hw218_2), ((HB.out.cell (World.block_lt_of_cell? w _ hw218_3)).trans hw218_3)⟩ (fun hHeld => ?_)
         clear hK K
         refine norm_ (a' := ?_) ?_ ?_
         rotate_left
         ·show Act.put _ (some 8) _ = _
          simp only [Act.put, List.setIfInBounds_toArray, List.set_cons_zero, List.set_cons_succ, i64_w, i32_w]
          rfl
         refine one_ (i := 5) (N := some 27) #[true, true, true, true, true, true, false, false, false, true, false, false] rfl rfl (one_of HT_.out (by kernel_rfl)) (by decide) (fun K hK => ?_)
         refine goes_ Try.func9 (by kernel_rfl) rfl #[.agg #[.slice Ao34 x218000_1.length co34], .agg #[.int .i64 ((rd_T35 l1 x7_1).f0), .string ((rd_T35 l1 x7_1).f1), .string ((rd_T35 l1 x7_1).f2), .string ((rd_T35 l1 x7_1).f3)]] (by rfl) rfl rfl zr ?_
         with_reducible refine (spec_DoAct.calls k1 _ _ x218000_1 ((rd_T35 l1 x7_1).f0) ((rd_T35 l1 x7_1).f1) ((rd_T35 l1 x7_1).f2) ((rd_T35 l1 x7_1).f3) t219 false _ ?side1 ?side2 A18.out).mono ?_
         (case side1 => repeat (first | exact (Kd.R_reads' HO_218000.out).2.2 | (with_reducible refine Kd.C_alloc ?_ _) | (with_reducible refine Kd.C_drewN ?_ _) | (with_reducible refine Kd.C_drew ?_)))
         (case side2 => exact (Kd.R_reads' HO_218000.out).2.1)
         rintro e w37 ⟨v220, rfl, ho0, hb⟩
         refine ⟨_, rfl, ?_⟩
         have HO221 := am (Kd.R_lower (Kd.R_new' ho0 (Kd.R_lt (rx HO_218000.out))) (below_size (zb4 HB.out GE209.out GE210.out GE217.out GE223.out)))
         replace HO_218000 := am (Kd.R_elder' (rx HO_218000.out) (Kd.R_base ho0) hb)
         replace BK209 := am (bb hb (kx BK209.out))
         replace BK210 := am (bb hb (kx BK210.out))
         replace BK217 := am (bb hb (kx BK217.out))
         replace BK223 := am (bb hb (kx BK223.out))
         replace HB := am (below_step (zb4 HB.out GE209.out GE210.out GE217.out GE223.out) hb)
         try clear hb
         try clear hb2
         try clear hk
         try clear hi
         try clear ho0
         refine hK.out _ _ ⟨ct BK217.out 0, ((HB.out.cell (World.block_lt_of_cell? w _ hw218_0)).trans hw218_0), ((HB.out.cell (World.block_lt_of_cell? w _ hw218_1)).trans hw218_1), ((HB.out.cell (World.block_lt_of_cell? w _ hw218_2)).trans hw218_2), ((HB.out.cell (World.block_lt_of_cell? w _ hw218_3)).trans hw218_3)⟩ (fun hHeld => ?_)
         clear hK K
         refine norm_ (a' := ?_) ?_ ?_
         rotate_left
         ·show Act.put _ (some 27) _ = _
          simp only [Act.put, List.setIfInBounds_toArray, List.set_cons_zero, List.set_cons_succ, i64_w, i32_w]
          rfl
         refine pure_ (i := 6) (N := some 21) (v := ?_) (a' := ?_) #[true, true, true, true, true, true, true, false, false, true, false, false] rfl rfl (any_of HT_.out (by kernel_rfl)) (fun _ _ _ h => h) (Or.inl ⟨by rfl, ?_⟩) ?_ ?_
         rotate_left
         ·intro w'
          go_simp
          with_reducible rfl
         rotate_left
         ·simp only [Act.put, List.setIfInBounds_toArray, List.set_cons_zero, List.set_cons_succ, i64_w, i32_w]
          rfl
         refine pure_ (i := 7) (N := some 28) (v := ?_) (a' := ?_) #[true, true, true, true, true, true, true, true, false, true, false, false] rfl rfl (any_of HT_.out (by kernel_rfl)) (fun _ _ _ h => h) (Or.inl ⟨by rfl, ?_⟩) ?_ ?_
         rotate_left
         ·intro w'
          go_simp
          with_reducible rfl
         rotate_left
         ·simp only [Act.put, List.setIfInBounds_toArray, List.set_cons_zero, List.set_cons_succ, i64_w, i32_w]
          rfl
         refine pure_ (i := 8) (N := some 29) (v := ?_) (a' := ?_) #[true, true, true, true, true, true, true, true, true, true, false, false] rfl rfl (any_of HT_.out (by kernel_rfl)) (fun _ _ _ h => h) (Or.inl ⟨by rfl, ?_⟩) ?_ ?_
         rotate_left
         ·intro w'
          go_simp
          with_reducible rfl
         rotate_left
         ·simp only [Act.put, List.setIfInBounds_toArray, List.set_cons_zero, List.set_cons_succ, i64_w, i32_w]
          rfl
         exact norm_ (by simp only [putAll, Act.put, List.setIfInBounds_toArray, List.set_cons_zero, List.set_cons_succ]) (hCont (v220, gb223) _ ⟨hHeld, (rx (Kd.R_mono HO221.out (fun _ hk => hk.2))), (rx (Kd.R_mono HO_218000.out (fun _ hk => hk.2))), (kx BK209.out), (kx BK210.out), (kx BK217.out), (kx BK223.out), GW223.out, GE223.out, NB209_223.out, NB223_209.out, NB210_223.out, NB223_210.out, NB217_223.out, NB223_217.out, (zb4 HB.out GE209.out GE210.out GE217.out GE223.out)⟩)
       rintro ⟨v220, gb223⟩ w38 ⟨hS_, h0_, h1_, h2_, h3_, h4_, h5_, h6_, h7_, h8_, h9_, h10_, h11_, h12_, h13_, h14_⟩
       have n0_ : Aside0 (Kd.R k66 66 w38 w.heap.size (fun k_ => some k_ ≠ (.slice Ao34 x218000_1.length co34 : Value).ownBlock) v220 t219) := ⟨h0_⟩
       have n1_ : Aside0 (Kd.R k66 66 w38 w.heap.size (fun k_ => some k_ ≠ (v220 : Value).ownBlock) (.slice Ao34 x218000_1.length co34) x218000_1) := ⟨h1_⟩
       have n2_ : Aside0 (w38.heap[gb209]? = some (.cells #[.slice A0_0 l0_0.length c0_0] 31 (0, 0))) := ⟨h2_⟩
       have n3_ : Aside0 (w38.heap[gb210]? = some (.cells #[.slice none 0 0] 31 (0, 0))) := ⟨h3_⟩
       have n4_ : Aside0 (w38.heap[gb217]? = some (.cells #[.slice Ao34 x218000_1.length co34] 31 (0, 0))) := ⟨h4_⟩
       have n5_ : Aside0 (w38.heap[gb223]? = some (.cells #[.slice none 0 0] 31 (0, 0))) := ⟨h5_⟩
       have n6_ : Aside0 (w.heap.size ≤ gb223) := ⟨h6_⟩
       have n7_ : Aside0 (w.heap.size ≤ gb223) := ⟨h7_⟩
       have n8_ : Aside0 (gb209 ≠ gb223) := ⟨h8_⟩
       have n9_ : Aside0 (gb223 ≠ gb209) := ⟨h9_⟩
       have n10_ : Aside0 (gb210 ≠ gb223) := ⟨h10_⟩
       have n11_ : Aside0 (gb223 ≠ gb210) := ⟨h11_⟩
       have n12_ : Aside0 (gb217 ≠ gb223) := ⟨h12_⟩
       have n13_ : Aside0 (gb223 ≠ gb217) := ⟨h13_⟩
       have n14_ : Aside0 (Below w.heap.size w w38) := ⟨h14_⟩
       clear HO_218000 BK209 BK210 BK217 HB h0_ h1_ h2_ h3_ h4_ h5_ h6_ h7_ h8_ h9_ h10_ h11_ h12_ h13_ h14_
       have HO221 := n0_
       have HO_218000 := n1_
       have BK209 := n2_
       have BK210 := n3_
       have BK217 := n4_
       have BK223 := n5_
       have GW223 := n6_
       have GE223 := n7_
       have NB209_223 := n8_
       have NB223_209 := n9_
       have NB210_223 := n10_
       have NB223_210 := n11_
       have NB217_223 := n12_
       have NB223_217 := n13_
       have HB := n14_
       clear n0_ n1_ n2_ n3_ n4_ n5_ n6_ n7_ n8_ n9_ n10_ n11_ n12_ n13_ n14_
       have hHeld : w38.cell? ⟨gb217, 0, none⟩ = some (.slice Ao34 x218000_1.length co34) ∧ w38.cell? (ad218.add ((x7_1).toNat * 4)) = some (.int .i64 ((rd_T35 l1 x7_1).f0)) ∧ w38.cell? ⟨(ad218.add ((x7_1).toNat * 4)).block, (ad218.add ((x7_1).toNat * 4)).off + 1, none⟩ = some (.string ((rd_T35 l1 x7_1).f1)) ∧ w38.cell? ⟨(ad218.add ((x7_1).toNat * 4)).block, (ad218.add ((x7_1).toNat * 4)).off + 2, none⟩ = some (.string ((rd_T35 l1 x7_1).f2)) ∧ w38.cell? ⟨(ad218.add ((x7_1).toNat * 4)).block, (ad218.add ((x7_1).toNat * 4)).off + 3, none⟩ = some (.string ((rd_T35 l1 x7_1).f3)) := hS_
       obtain ⟨Ao39, co39, eo39⟩ := Kd.R_slice HO221.out
       (first | subst eo39 | (injection eo39 with f1_ f2_ f3_; have f4_ := f1_.symm; have f5_ := f3_.symm; clear f1_ f2_ f3_; subst f4_; subst f5_))
       refine norm_ (a' := ?_) ?_ ?_
       rotate_left
       ·simp only [putAll, Act.put, List.setIfInBounds_toArray, List.set_cons_zero, List.set_cons_succ]
        rfl
       refine one_ (i := 10) (N := none) #[true, true, true, true, true, true, true, true, true, true, true, false] rfl rfl (one_of HT_.out (by kernel_rfl)) (by decide) (fun K hK => ?_)
       have hs40 : w38.cell? ⟨gb223, 0, none⟩ = some (.slice none 0 0) := ct BK223.out 0
       have hfs40 := blk_frozen BK223.out 0
       have hns40_0 := NB209_223.out
       have hns40_1 := NB210_223.out
       have hns40_2 := NB217_223.out
       have hms40_0 := NB223_209.out
       have hms40_1 := NB223_210.out
       have hms40_2 := NB223_217.out
       refine skip_ (w1 := ?_) (by rfl) rfl ?_ ?_
       rotate_left
       ·go_simp
        rfl
       refine hK.out _ _ ⟨((cell_far (p := ⟨gb223, _, none⟩) NB217_223.out _).trans (hHeld.1)), ((cell_far (p := ⟨gb223, _, none⟩) (by first | exact Nat.ne_of_lt (Nat.lt_of_lt_of_le (by have := World.block_lt_of_cell? _ _ hw218_0; first | rwa [add_block] at this | exact this) GW223.out) | (rw [add_block]; exact Nat.ne_of_lt (Nat.lt_of_lt_of_le (by have := World.block_lt_of_cell? _ _ hw218_0; first | rwa [add_block] at this | exact this) GW223.out)) | (show (Addr.add _ _).block ≠ _; rw [add_block]; exact Nat.ne_of_lt (Nat.lt_of_lt_of_le (by have := World.block_lt_of_cell? _ _ hw218_0; first | rwa [add_block] at this | exact this) GW223.out)) | (dsimp only; exact Nat.ne_of_lt (Nat.lt_of_lt_of_le (by have := World.block_lt_of_cell? _ _ hw218_0; first | rwa [add_block] at this | exact this) GW223.out))) _).trans (hHeld.2.1)), ((cell_far (p := ⟨gb223, _, none⟩) (by first | exact Nat.ne_of_lt (Nat.lt_of_lt_of_le (by have := World.block_lt_of_cell? _ _ hw218_1; first | rwa [add_block] at this | exact this) GW223.out) | (rw [add_block]; exact Nat.ne_of_lt (Nat.lt_of_lt_of_le (by have := World.block_lt_of_cell? _ _ hw218_1; first | rwa [add_block] at this | exact this) GW223.out)) | (show (Addr.add _ _).block ≠ _; rw [add_block]; exact Nat.ne_of_lt (Nat.lt_of_lt_of_le (by have := World.block_lt_of_cell? _ _ hw218_1; first | rwa [add_block] at this | exact this) GW223.out)) | (dsimp only; exact Nat.ne_of_lt (Nat.lt_of_lt_of_le (by have := World.block_lt_of_cell? _ _ hw218_1; first | rwa [add_block] at this | exact this) GW223.out))) _).trans (hHeld.2.2.1)), ((cell_far (p := ⟨gb223, _, none⟩) (by first | exact Nat.ne_of_lt (Nat.lt_of_lt_of_le (by have := World.block_lt_of_cell? _ _ hw218_2; first | rwa [add_block] at this | exact this) GW223.out) | (rw [add_block]; exact Nat.ne_of_lt (Nat.lt_of_lt_of_le (by have := World.block_lt_of_cell? _ _ hw218_2; first | rwa [add_block] at this | exact this) GW223.out)) | (show (Addr.add _ _).block ≠ _; rw [add_block]; exact Nat.ne_of_lt (Nat.lt_of_lt_of_le (by have := World.block_lt_of_cell? _ _ hw218_2; first | rwa [add_block] at this | exact this) GW223.out)) | (dsimp only; exact Nat.ne_of_lt (Nat.lt_of_lt_of_le (by have := World.block_lt_of_cell? _ _ hw218_2; first | rwa [add_block] at this | exact this) GW223.out))) _).trans (hHeld.2.2.2.1)), ((cell_far (p := ⟨gb223, _, none⟩) (by first | exact Nat.ne_of_lt (Nat.lt_of_lt_of_le (by have := World.block_lt_of_cell? _ _ hw218_3; first | rwa [add_block] at this | exact this) GW223.out) | (rw [add_block]; exact Nat.ne_of_lt (Nat.lt_of_lt_of_le (by have := World.block_lt_of_cell? _ _ hw218_3; first | rwa [add_block] at this | exact this) GW223.out)) | (show (Addr.add _ _).block ≠ _; rw [add_block]; exact Nat.ne_of_lt (Nat.lt_of_lt_of_le (by have := World.block_lt_of_cell? _ _ hw218_3; first | rwa [add_block] at this | exact this) GW223.out)) | (dsimp only; exact Nat.ne_of_lt (Nat.lt_of_lt_of_le (by have := World.block_lt_of_cell? _ _ hw218_3; first | rwa [add_block] at this | exact this) GW223.out))) _).trans (hHeld.2.2.2.2))⟩ (fun hHeld => ?_)
       clear hK K
       refine pure_ (i := 11) (N := some 9) (v := ?_) (a' := ?_) #[true, true, true, true, true, true, true, true, true, true, true, true] rfl rfl (any_of HT_.out (by kernel_rfl)) (fun _ _ _ h => h) (Or.inl ⟨by rfl, ?_⟩) ?_ ?_
       rotate_left
       ·intro w'
        go_simp
        with_reducible rfl
       rotate_left
       ·simp only [Act.put, List.setIfInBounds_toArray, List.set_cons_zero, List.set_cons_succ, i64_w, i32_w]
        rfl
       refine done_ (done_of HT_.out (by kernel_rfl)) ?_
       have hnb41 := NB217_209.out
       have hnc41 := NB209_217.out
       have hnb42 := NB217_210.out
       have hnc42 := NB210_217.out
       have hnb43 := NB217_223.out
       have hnc43 := NB223_217.out
       obtain ⟨hcz44_0, hfz44_0⟩ := zc1 BK217.out
       have hnb45 := NB210_209.out
       have hnc45 := NB209_210.out
       have hnb46 := NB210_223.out
       have hnc46 := NB223_210.out
       obtain ⟨hcz47_0, hfz47_0⟩ := zc1 BK210.out
       try go_wp2
       refine bodyPost_ret (results_ct rfl _ _ gb210 31 #[.slice Ao34 x218000_1.length co34] (0, 0) _ rfl (by (with_reducible repeat (first | refine blk_drewN ?_ _ | refine blk_drew ?_ | refine blk_alloc ?_ _)); refine blk_put (cs := #[.slice none 0 0]) ?_ 0 _ rfl; (with_reducible repeat (first | refine blk_drewN ?_ _ | refine blk_drew ?_ | refine blk_alloc ?_ _)); refine blk_far ?_ NB210_223.out _; (with_reducible repeat (first | refine blk_drewN ?_ _ | refine blk_drew ?_ | refine blk_alloc ?_ _)); exact BK210.out) Try.underlying31 rfl (by kernel_rfl)) rfl ?_
       exact ⟨_, by first | rfl | (simp [errW_none, errW_some] <;> rfl) | (simp [*, errW_none, errW_some] <;> rfl), rx (Kd.R_mono (Kd.R_far (p := ⟨gb210, 0, none⟩) (Kd.R_far (p := ⟨gb223, 0, none⟩) (Kd.R_types (Kd.R_types HO_218000.out BK223.out (by decide)) BK210.out (by decide)) (fun _ hk => hk.1.2) (.slice Ao39 t219.length co39)) (fun _ hk => hk.2) (.slice Ao34 x218000_1.length co34)) (fun _ hk => trivial)), zb4 HB.out GE209.out GE210.out GE217.out GE223.out⟩
     ·rw [if_neg c17] at H
      exact absurd H (by simp)
    ·rw [if_neg c16] at H
     have c16b0 : decide (x7_1 < (l1.length : Int)) = false := decide_eq_false c16
     have c16b1 : decide ((l1.length : Int) ≤ x7_1) = true := decide_eq_true (by omega)
     clear c16
     simp only [Option.some.injEq, Prod.mk.injEq] at H
     obtain ⟨rfl, rfl⟩ := H
     have hnb48 := NB217_209.out
     have hnc48 := NB209_217.out
     have hnb49 := NB217_210.out
     have hnc49 := NB210_217.out
     obtain ⟨hcz50_0, hfz50_0⟩ := zc1 BK217.out
     obtain ⟨Ao51, co51, eo51⟩ := Kd.R_slice HO_218000.out
     subst eo51
     have hnb52 := NB210_209.out
     have hnc52 := NB209_210.out
     obtain ⟨hcz53_0, hfz53_0⟩ := zc1 BK210.out
     go_wp2
     refine bodyPost_ret (results_ct rfl _ _ gb210 31 #[.slice Ao51 x218000_1.length co51] (0, 0) _ rfl (by (with_reducible repeat (first | refine blk_drewN ?_ _ | refine blk_drew ?_ | refine blk_alloc ?_ _)); refine blk_put (cs := #[.slice none 0 0]) ?_ 0 _ rfl; (with_reducible repeat (first | refine blk_drewN ?_ _ | refine blk_drew ?_ | refine blk_alloc ?_ _)); exact BK210.out) Try.underlying31 rfl (by kernel_rfl)) rfl ?_
     exact ⟨_, by first | rfl | (simp [errW_none, errW_some] <;> rfl) | (simp [*, errW_none, errW_some] <;> rfl), rx (Kd.R_mono (Kd.R_far (p := ⟨gb210, 0, none⟩) (Kd.R_types HO_218000.out BK210.out (by decide)) (fun _ hk => hk.2) (.slice Ao51 x218000_1.length co51)) (fun _ hk => trivial)), zb3 HB.out GE209.out GE210.out GE217.out⟩
 ·rw [if_neg c3] at H
  exact absurd H (by simp)

end Go.Proofs.Ytklbkkoojkmjbaa.QFnExactDoActs
