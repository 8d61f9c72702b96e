/- Written by the kit's print.py, called by our own print2.sh with one import more; not by print.sh. -/
import Derived.Test.YtklbkkoojkmjbaaQFnActsx0
import Derived.Test.YtklbkkoojkmjbaaQFnActsx8
namespace Go.Proofs.Ytklbkkoojkmjbaa.QFnActs
open Go.RowKit Go.Proofs.YtklbkkoojkmjbaaW.PrintWords Go.Proofs.YtklbkkoojkmjbaaW.PrintLast Go.Proofs.YtklbkkoojkmjbaaW.PrintMore
attribute [local go_sem] max2_int min2_int max_two min_two max_three min_three max_four min_four   -- for this text's walks alone
open Go.Proofs.Ytklbkkoojkmjbaa.Short
set_option linter.unusedVariables false
set_option linter.unusedSimpArgs false

/-! ### spec_DoActs: function 17 -/
def spec_DoActs.l0 : Nat → List (S35) → Int → List (S66) → Option ((List (S66)) × Int)
 | 0, _, _, _ => none
 | k + 1, x1, x7, x220000 => if x7 < (x1.length : Int) then (if 0 ≤ x7 then ((spec_DoAct.f k x220000 ((rd_T35 x1 x7).f0) ((rd_T35 x1 x7).f1) ((rd_T35 x1 x7).f2) ((rd_T35 x1 x7).f3)).bind fun bt221 => (if bt221.2 = true then (spec_DoActs.l0 k x1 (wrap64 (x7 + 1)) bt221.1) else (some (x220000, x7)))) else (none)) else (some (x220000, (x1.length : Int)))
def spec_DoActs.f (k : Nat) (l0_0 : List (S66)) (l1 : List (S35)) : Option ((List (S66)) × Int) := (some (([] : List (S66)) : List (S66))).bind fun y213 => (if y213.length + l0_0.length < 3518437208883 then (spec_DoActs.l0 k l1 0 (y213 ++ l0_0)) else (none))
theorem spec_DoActs.mono_l : ∀ k, (∀ y0 y1 y2, LeO (spec_DoActs.l0 k y0 y1 y2) (spec_DoActs.l0 (k + 1) y0 y1 y2))
 | 0 => fun _ _ _ r h => by simp [spec_DoActs.l0] at h
 | k + 1 => by
  have ih0 := spec_DoActs.mono_l k
  ·intro y0 y1 y2
   unfold spec_DoActs.l0
   repeat' first
   | (with_reducible exact ih0 _ _ _)
   | (with_reducible exact spec_DoAct.mono _ _ _ _ _ _)
   | (with_reducible exact LeO.refl _)
   | (with_reducible exact LeO.none _)
   | (with_reducible refine LeO.ite ?_ ?_)
   | (with_reducible refine LeO.bind ?_ (fun _ => ?_))
   | exact ih0 _ _ _
   | exact spec_DoAct.mono _ _ _ _ _ _
   | exact LeO.none _
   | refine LeO.ite ?_ ?_
   | refine LeO.bind ?_ (fun _ => ?_)
theorem spec_DoActs.mono : ∀ a0 a1 k, LeO (spec_DoActs.f k a0 a1) (spec_DoActs.f (k + 1) a0 a1) := by
 intro a0 a1 k
 have ih0 := spec_DoActs.mono_l k
 unfold spec_DoActs.f
 repeat' first
   | (with_reducible exact ih0 _ _ _)
   | (with_reducible exact spec_DoAct.mono _ _ _ _ _ _)
   | (with_reducible exact LeO.refl _)
   | (with_reducible exact LeO.none _)
   | (with_reducible refine LeO.ite ?_ ?_)
   | (with_reducible refine LeO.bind ?_ (fun _ => ?_))
   | exact ih0 _ _ _
   | exact spec_DoAct.mono _ _ _ _ _ _
   | exact LeO.none _
   | refine LeO.ite ?_ ?_
   | refine LeO.bind ?_ (fun _ => ?_)
def spec_DoActs.T5 : Bool × List (List Nat × List Nat) := (true, [([], []), ([], []), ([], []), ([1, 2], [1, 2]), ([3], [3]), ([0, 4], [0, 4]), ([5], [5]), ([6], [6]), ([6], [6]), ([], []), ([9, 7, 5, 0, 1, 2, 3, 4, 5, 6, 7, 9], [7, 9]), ([8, 10, 0, 1, 2, 3, 4, 5, 6, 7, 8, 9, 10], [8])])
def spec_DoActs.B5 : List Nat := [0, 0, 0, 6, 14, 31, 63, 127, 127, 0, 767, 2047]
theorem spec_DoActs.tab5 : rtab .any (opsOf Try.f17 5) = spec_DoActs.T5 := by kernel_rfl
theorem spec_DoActs.bits5 : waitsOk spec_DoActs.T5.2 spec_DoActs.B5 = true := by kernel_rfl
set_option maxHeartbeats 8000000 in
set_option maxRecDepth 100000 in
theorem spec_DoActs.calls (k : Nat) (A0_0 : Option Addr) (c0_0 : Nat) (l0_0 : List (S66)) (A1 : Option Addr) (c1 : Nat) (l1 : List (S35)) (r1 : List (S66)) (r2 : Int) (w : World) (hr0_0 : Kd.C k66 w A0_0 l0_0.length l0_0) (hc0_0 : l0_0.length ≤ c0_0) (hr1 : Kd.C k35 w A1 l1.length l1) (hc1 : l1.length ≤ c1) (h : spec_DoActs.f k l0_0 l1 = some (r1, r2)) :
  Calls Try.prog 17 #[.agg #[.slice A0_0 l0_0.length c0_0], .slice A1 l1.length c1] w fun e w' => ∃ v0_ : Value, e = .returned (.tuple #[.agg #[v0_], .int .i64 r2]) ∧ Kd.R k66 66 w' w.heap.size (fun _ => True) v0_ r1 ∧ Below w.heap.size w w' := by
 have hu31 := Try.underlying31
 have hu35 := Try.underlying35
 have HR0_0 := Aside0.mk hr0_0
 have HC0_0 := Aside0.mk hc0_0
 clear hr0_0 hc0_0
 have HR1 := Aside0.mk hr1
 have HC1 := Aside0.mk hc1
 clear hr1 hc1
 have HB := Aside0.mk (Below.refl w.heap.size w)
 have H : ((some (([] : List (S66)) : List (S66))).bind fun y213 => (if y213.length + l0_0.length < 3518437208883 then (spec_DoActs.l0 k l1 0 (y213 ++ l0_0)) else (none))) = some (r1, r2) := h
 clear h
 obtain ⟨y213, hy213⟩ : ∃ y_ : List (S66), y_ = (([] : List (S66))) := ⟨_, rfl⟩
 replace H : (if y213.length + l0_0.length < 3518437208883 then (spec_DoActs.l0 k l1 0 (y213 ++ l0_0)) else (none)) = some (r1, r2) := by first | (rw [hy213]; with_reducible exact H) | (have H2_ := (Option.bind_some _ _).symm.trans H; rw [hy213]; with_reducible exact H2_) | (have H2_ := (Option.bind_some _ _).symm.trans H; with_reducible exact H2_) | with_reducible exact H | (rw [hy213]; exact H) | exact H
 have Ny213 := Aside0.mk hy213
 clear hy213
 by_cases c3 : y213.length + l0_0.length < 3518437208883
 ·rw [if_pos c3] at H
  have LMc3 := Aside0.mk c3
  clear c3
  obtain ⟨y216, hy216⟩ : ∃ y_ : List (S66), y_ = (y213 ++ l0_0) := ⟨_, rfl⟩
  replace H : (spec_DoActs.l0 k l1 0 y216) = some (r1, r2) := by first | (rw [hy216]; with_reducible exact H) | (have H2_ := (Option.bind_some _ _).symm.trans H; rw [hy216]; with_reducible exact H2_) | (have H2_ := (Option.bind_some _ _).symm.trans H; with_reducible exact H2_) | with_reducible exact H | (rw [hy216]; exact H) | exact H
  have Ny216 := Aside0.mk hy216
  clear hy216
  have H' := Aside0.mk H
  clear H
  go_enter Try.func17, Try.ntmps17
  go_wp2_with (first | ((with_reducible refine gate_dst (N := 2) rfl ?_); refine box_event rfl (N := 2) rfl (cs := #[.slice A0_0 l0_0.length c0_0]) (t := 31) zrun ?_; intro gb211 hg w4 hbox hb; have BK211 := am (hbox); have GE211 := zge hg (zb0 HB.out); replace HB := zs0 hb HB; clear hb hbox hg) | ((with_reducible refine gate_dst (N := 4) rfl ?_); refine box_event rfl (N := 4) rfl (cs := #[.slice none 0 0]) (t := 31) zrun ?_; intro gb212 hg w5 hbox hb; have BK212 := am (hbox); have GE212 := zge hg (zb1 HB.out GE211.out); obtain ⟨NB211_212, NB212_211⟩ := zne hg BK211; replace BK211 := zk hb BK211; replace HB := zs1 hb HB GE211; clear hb hbox hg) | ((with_reducible refine gate_dst (N := 10) rfl ?_); refine Kd.R_lit k66 _ 66 ?hg (N := 10) ?hd (xs := ([] : List (S66))) (inner := []) (ok := fun _ => True) (okp := fun _ => True) ?hr ?hp (fun _ hk => hk) trivial (Below.refl _ _) (Nat.le_refl _) (by simp) ?_; (case hd => rfl); (case hg => rfl); (case hr => first | (go_simp; done) | (go_simp; rfl)); (case hp => exact (Reps.none _ _)); intro v214 w6 ho7 hb hg_ hnew_; clear hg_ hnew_; (first | rw [← Ny213.out] at ho7 | (simp only [Int.reduceToNat] at ho7; rw [← Ny213.out] at ho7)); have HO215 := am (Kd.R_lower ho7 (below_size (zb2 HB.out GE211.out GE212.out))); replace BK211 := zk hb BK211; replace BK212 := zk hb BK212; replace HB := zs2 hb HB GE211 GE212; clear hb ho7; obtain ⟨hnb8, hnc8⟩ := zn2 NB211_212; obtain ⟨hcz9_0, hfz9_0⟩ := zc1 BK211.out) | ((with_reducible refine gate_builtin (b := .append) (xs := #[.tmp 10, .tmp 12]) rfl ?_); at_builtin; refine Kd.R_append_rows k66 (w0 := w) w.heap.size rfl (.tmp 10) (.tmp 12) 29 66 (.agg #[(.string ⟨#[]⟩), (.string ⟨#[]⟩), (.int .i64 0)]) 40 rfl Try.underlying29 info66 rfl (by decide) (by omega) v214 y213 l0_0 _ _ _ (fun _ => True) (fun _ => False) rfl rfl ?aO ?aR (fun _ _ h => h) (fun _ h => h.elim) ?aF ?aB ?aS ?aL ?_; (case aR => repeat (first | exact (Kd.C_below HR0_0.out HB.out) | (with_reducible refine Kd.C_alloc ?_ _) | (with_reducible refine Kd.C_drewN ?_ _) | (with_reducible refine Kd.C_drew ?_))); (case aB => exact (zb2 HB.out GE211.out GE212.out)); (case aF => exact (fun _ _ => trivial)); (case aO => exact (rx HO215.out)); (case aS => exact (below_size (zb2 HB.out GE211.out GE212.out))); (case aL => have := LMc3.out; omega); intro v217 w10 ho hb hg hat; rw [← Ny216.out] at ho; have HO218 := am (ho); replace BK211 := am (blk_grown (g := gb211) (o := .cells #[.slice A0_0 l0_0.length c0_0] 31 (0, 0)) (kx BK211.out) hg (Kd.R_ne HO215.out BK211.out (by decide))); replace BK212 := am (blk_grown (g := gb212) (o := .cells #[.slice none 0 0] 31 (0, 0)) (kx BK212.out) hg (Kd.R_ne HO215.out BK212.out (by decide))); replace HB := am (hb); clear HO215; clear ho hb hg hat; obtain ⟨Ao11, co11, eo11⟩ := Kd.R_slice HO218.out; subst eo11) | ((with_reducible refine gate_dst (N := 6) rfl ?_); refine box_event rfl (N := 6) rfl (cs := #[.slice none 0 0]) (t := 31) zrun ?_; intro gb219 hg w12 hbox hb; have BK219 := am (hbox); have GE219 := zge hg (zb2 HB.out GE211.out GE212.out); obtain ⟨NB211_219, NB219_211⟩ := zne hg BK211; obtain ⟨NB212_219, NB219_212⟩ := zne hg BK212; replace HO218 := zo hb HO218; replace BK211 := zk hb BK211; replace BK212 := zk hb BK212; replace HB := zs2 hb HB GE211 GE212; clear hb hbox hg; obtain ⟨hnb13, hnc13⟩ := zn2 NB219_211; obtain ⟨hnb14, hnc14⟩ := zn2 NB219_212; obtain ⟨hcz15_0, hfz15_0⟩ := zc1 BK219.out))
  go_loopg [7] k (fun kq v7 w' => ∃ (x7_1 : Int) (x220000_1 : List (S66)) (u220000 : Value), v7 = .int .i64 x7_1 ∧ Aside0 (spec_DoActs.l0 kq l1 x7_1 x220000_1 = some (r1, r2)) ∧ Aside0 (kq ≤ k) ∧ Aside0 (Kd.R k66 66 w' w.heap.size (fun _ => True) u220000 x220000_1) ∧ Aside0 (w'.heap[gb211]? = some (.cells #[(.slice A0_0 l0_0.length c0_0)] 31 (0, 0))) ∧ Aside0 (w'.heap[gb212]? = some (.cells #[(.slice none 0 0)] 31 (0, 0))) ∧ Aside0 (w'.heap[gb219]? = some (.cells #[u220000] 31 (0, 0))) ∧ Aside0 (Below w.heap.size w w'))
  case atStart => exact ⟨(0), (y216), (.slice Ao11 y216.length co11), (by first | rfl | (simp; done) | (simp [*]; done)), H', ⟨Nat.le_refl _⟩, ⟨rx (Kd.R_mono (Kd.R_far (p := ⟨gb219, 0, none⟩) (Kd.R_types HO218.out BK219.out (by decide)) (fun _ hk => hk.2) (.slice Ao11 y216.length co11)) (fun _ hk => trivial))⟩, ⟨zf1 BK211.out NB211_219.out⟩, ⟨zf1 BK212.out NB212_219.out⟩, ⟨by (with_reducible repeat (first | refine blk_drewN ?_ _ | refine blk_drew ?_ | refine blk_alloc ?_ _)); refine blk_put (cs := #[.slice none 0 0]) ?_ 0 _ rfl; (with_reducible repeat (first | refine blk_drewN ?_ _ | refine blk_drew ?_ | refine blk_alloc ?_ _)); exact BK219.out⟩, ⟨zb3 HB.out GE211.out GE212.out GE219.out⟩⟩
  case round =>
   clear H'
   obtain ⟨x7_1, x220000_1, u220000, rfl, HA, HK1, HO_220000, BK211, BK212, BK219, HB⟩ := hrel
   cases gk with
   | zero => exact absurd HA.out (by simp [spec_DoActs.l0])
   | succ k1 =>
    have H := HA.out
    clear HA
    simp only [spec_DoActs.l0] at H
    by_cases c16 : x7_1 < (l1.length : Int)
    ·rw [if_pos c16] at H
     have c16b0 : decide (x7_1 < (l1.length : Int)) = true := decide_eq_true c16
     have c16b1 : decide ((l1.length : Int) ≤ x7_1) = false := decide_eq_false (by omega)
     clear c16
     by_cases c17 : 0 ≤ x7_1
     ·rw [if_pos c17] at H
      have c17b0 : decide (0 ≤ x7_1) = true := decide_eq_true c17
      clear c17
      replace H := Option.bind_eq_some_iff.mp H
      obtain ⟨⟨t221, t224⟩, A180, H⟩ := H
      try dsimp only at H
      have A18 := Aside0.mk A180
      clear A180
      have HD_ := Aside0.mk H
      clear H
      obtain ⟨Ao20, co20, eo20⟩ := Kd.R_slice HO_220000.out
      subst eo20
      try go_wp2
      replace HO_220000 := am (Kd.R_drew HO_220000.out)
      replace BK211 := zw BK211
      replace BK212 := zw BK212
      replace BK219 := zw BK219
      replace HB := am (below_drew1 HB.out)
      have p220 : 0 ≤ (x7_1 : Int) := zpq
      have q220 : x7_1 < (l1.length : Int) := zpq
      obtain ⟨ad220, e220, hx220_0, hx220_1, hx220_2, hx220_3⟩ := at_T35 HR1.out x7_1 p220 q220
      have hw220_3 := hx220_3
      have hw220_2 := hx220_2
      have hw220_1 := hx220_1
      have hw220_0 := hx220_0
      cases e220
      replace hx220_0 := (HB.out.cell (World.block_lt_of_cell? w _ hx220_0)).trans hx220_0
      replace hx220_1 := (HB.out.cell (World.block_lt_of_cell? w _ hx220_1)).trans hx220_1
      replace hx220_2 := (HB.out.cell (World.block_lt_of_cell? w _ hx220_2)).trans hx220_2
      replace hx220_3 := (HB.out.cell (World.block_lt_of_cell? w _ hx220_3)).trans hx220_3
      replace p220 := eq_true p220
      replace q220 := eq_true q220
      refine start_ (n := 12) (S := fun w' => w'.cell? ⟨gb219, 0, none⟩ = some (.slice Ao20 x220000_1.length co20) ∧ w'.cell? (ad220.add ((x7_1).toNat * 4)) = some (.int .i64 ((rd_T35 l1 x7_1).f0)) ∧ w'.cell? ⟨(ad220.add ((x7_1).toNat * 4)).block, (ad220.add ((x7_1).toNat * 4)).off + 1, none⟩ = some (.string ((rd_T35 l1 x7_1).f1)) ∧ w'.cell? ⟨(ad220.add ((x7_1).toNat * 4)).block, (ad220.add ((x7_1).toNat * 4)).off + 2, none⟩ = some (.string ((rd_T35 l1 x7_1).f2)) ∧ w'.cell? ⟨(ad220.add ((x7_1).toNat * 4)).block, (ad220.add ((x7_1).toNat * 4)).off + 3, none⟩ = some (.string ((rd_T35 l1 x7_1).f3))) (ds := []) #[false, false, false, false, false, false, false, false, false, false, false, false] (by kernel_rfl) rfl rfl ⟨ct BK219.out 0, ((HB.out.cell (World.block_lt_of_cell? w _ hw220_0)).trans hw220_0), ((HB.out.cell (World.block_lt_of_cell? w _ hw220_1)).trans hw220_1), ((HB.out.cell (World.block_lt_of_cell? w _ hw220_2)).trans hw220_2), ((HB.out.cell (World.block_lt_of_cell? w _ hw220_3)).trans hw220_3)⟩ (fun hHeld => ?_); refine with_tabW spec_DoActs.tab5 spec_DoActs.bits5 (fun HT_ HW_ => ?_)
      generalize wr.drew = w21 at HO_220000 BK211 BK212 BK219 HB hx220_0 hx220_1 hx220_2 hx220_3 hHeld ⊢
      refine zpu 1 23 #[false, true, false, false, false, false, false, false, false, false, false, false] HT_ ?_
      refine zpu 2 24 #[false, true, true, false, false, false, false, false, false, false, false, false] HT_ ?_
      refine zpu 3 25 #[false, true, true, true, false, false, false, false, false, false, false, false] HT_ ?_
      refine ztk5 0 22 #[true, true, true, true, false, false, false, false, false, false, false, false] HT_ HW_ hHeld ?_
      refine ztk5 4 26 #[true, true, true, true, true, false, false, false, false, false, false, false] HT_ HW_ hHeld ?_
      refine join_ (σ := Value × Nat) 2 #[true, true, true, true, true, true, true, true, true, true, false, false] (fun s_ => [(27, .tuple #[.agg #[s_.1], .bool t224]), (8, .pointer (some ⟨s_.2, 0, none⟩)), (21, .tuple #[.agg #[s_.1], .bool t224]), (28, .agg #[s_.1]), (29, .bool t224)]) (fun s_ w' => (w'.cell? ⟨gb219, 0, none⟩ = some (.slice Ao20 x220000_1.length co20) ∧ w'.cell? (ad220.add ((x7_1).toNat * 4)) = some (.int .i64 ((rd_T35 l1 x7_1).f0)) ∧ w'.cell? ⟨(ad220.add ((x7_1).toNat * 4)).block, (ad220.add ((x7_1).toNat * 4)).off + 1, none⟩ = some (.string ((rd_T35 l1 x7_1).f1)) ∧ w'.cell? ⟨(ad220.add ((x7_1).toNat * 4)).block, (ad220.add ((x7_1).toNat * 4)).off + 2, none⟩ = some (.string ((rd_T35 l1 x7_1).f2)) ∧ w'.cell? ⟨(ad220.add ((x7_1).toNat * 4)).block, (ad220.add ((x7_1).toNat * 4)).off + 3, none⟩ = some (.string ((rd_T35 l1 x7_1).f3))) ∧ (Kd.R k66 66 w' w.heap.size (fun k_ => some k_ ≠ (.slice Ao20 x220000_1.length co20 : Value).ownBlock) s_.1 t221) ∧ (Kd.R k66 66 w' w.heap.size (fun k_ => some k_ ≠ (s_.1 : Value).ownBlock) (.slice Ao20 x220000_1.length co20) x220000_1) ∧ (w'.heap[gb211]? = some (.cells #[.slice A0_0 l0_0.length c0_0] 31 (0, 0))) ∧ (w'.heap[gb212]? = some (.cells #[.slice none 0 0] 31 (0, 0))) ∧ (w'.heap[gb219]? = some (.cells #[.slice Ao20 x220000_1.length co20] 31 (0, 0))) ∧ (w'.heap[s_.2]? = some (.cells #[.slice none 0 0] 31 (0, 0))) ∧ (w.heap.size ≤ s_.2) ∧ (w.heap.size ≤ s_.2) ∧ (gb211 ≠ s_.2) ∧ (s_.2 ≠ gb211) ∧ (gb212 ≠ s_.2) ∧ (s_.2 ≠ gb212) ∧ (gb219 ≠ s_.2) ∧ (s_.2 ≠ gb219) ∧ (Below w.heap.size w w')) ?_ ?_
      rotate_left
      ·intro hCont
       refine two_ (i := 5) (j := 9) (Ni := some 27) (Nj := some 8) #[true, true, true, true, true, true, false, false, false, false, false, false] #[true, true, true, true, true, false, false, false, false, true, false, false] rfl rfl rfl rfl (two_of HT_.out (by kernel_rfl)) (by decide) (by decide) (fun K hK => ?_) (fun K hK => ?_)
       ·skip
        refine goes_ Try.func9 (by kernel_rfl) rfl #[.agg #[.slice Ao20 x220000_1.length co20], .agg #[.int .i64 ((rd_T35 l1 x7_1).f0), .string ((rd_T35 l1 x7_1).f1), .string ((rd_T35 l1 x7_1).f2), .string ((rd_T35 l1 x7_1).f3)]] (by rfl) rfl rfl zr ?_
        with_reducible refine (spec_DoAct.calls k1 _ _ x220000_1 ((rd_T35 l1 x7_1).f0) ((rd_T35 l1 x7_1).f1) ((rd_T35 l1 x7_1).f2) ((rd_T35 l1 x7_1).f3) t221 t224 _ ?side1 ?side2 A18.out).mono ?_
        (case side1 => repeat (first | exact (Kd.R_reads' HO_220000.out).2.2 | (with_reducible refine Kd.C_alloc ?_ _) | (with_reducible refine Kd.C_drewN ?_ _) | (with_reducible refine Kd.C_drew ?_)))
        (case side2 => exact (Kd.R_reads' HO_220000.out).2.1)
        rintro e w22 ⟨v222, rfl, ho0, hb⟩
        refine ⟨_, rfl, ?_⟩
        have HO223 := am (Kd.R_lower (Kd.R_new' ho0 (Kd.R_lt (rx HO_220000.out))) (below_size (zb3 HB.out GE211.out GE212.out GE219.out)))
        replace HO_220000 := am (Kd.R_elder' (rx HO_220000.out) (Kd.R_base ho0) hb)
        replace BK211 := zk hb BK211
        replace BK212 := zk hb BK212
        replace BK219 := zk hb BK219
        replace HB := zs3 hb HB GE211 GE212 GE219
        refine hK.out _ _ ⟨ct BK219.out 0, ((HB.out.cell (World.block_lt_of_cell? w _ hw220_0)).trans hw220_0), ((HB.out.cell (World.block_lt_of_cell? w _ hw220_1)).trans hw220_1), ((HB.out.cell (World.block_lt_of_cell? w _ hw220_2)).trans hw220_2), ((HB.out.cell (World.block_lt_of_cell? w _ hw220_3)).trans hw220_3)⟩ (fun hHeld => ?_)
        clear hK K
        refine znm 27 ?_
        refine zpu 6 21 #[true, true, true, true, true, true, true, false, false, false, false, false] HT_ ?_
        refine zpu 7 28 #[true, true, true, true, true, true, true, true, false, false, false, false] HT_ ?_
        refine zpu 8 29 #[true, true, true, true, true, true, true, true, true, false, false, false] HT_ ?_
        refine zon 9 #[true, true, true, true, true, true, true, true, true, true, false, false] HT_ (fun K hK => ?_)
        refine box_step ?hg (N := 8) ?hd (cs := #[.slice none 0 0]) (t := 31) ?hr ?_; (case hd => rfl); (case hg => rfl); (case hr => first | (go_simp; done) | (go_simp; rfl))
        intro gb225 hg w23 hbox hb
        have BK225 := am (hbox)
        have GW225 := zge hg (zb3 HB.out GE211.out GE212.out GE219.out)
        have GE225 := zge hg (zb3 HB.out GE211.out GE212.out GE219.out)
        obtain ⟨NB211_225, NB225_211⟩ := zne hg BK211
        obtain ⟨NB212_225, NB225_212⟩ := zne hg BK212
        obtain ⟨NB219_225, NB225_219⟩ := zne hg BK219
        replace HO_220000 := zo hb HO_220000
        replace HO223 := zo hb HO223
        replace BK211 := zk hb BK211
        replace BK212 := zk hb BK212
        replace BK219 := zk hb BK219
        replace HB := zs3 hb HB GE211 GE212 GE219
        clear hb hbox hg
        refine hK.out _ _ ⟨ct BK219.out 0, ((HB.out.cell (World.block_lt_of_cell? w _ hw220_0)).trans hw220_0), ((HB.out.cell (World.block_lt_of_cell? w _ hw220_1)).trans hw220_1), ((HB.out.cell (World.block_lt_of_cell? w _ hw220_2)).trans hw220_2), ((HB.out.cell (World.block_lt_of_cell? w _ hw220_3)).trans hw220_3)⟩ (fun hHeld => ?_)
        clear hK K
        refine znm 8 ?_
        exact norm_ (by simp only [putAll, Act.put, List.setIfInBounds_toArray, List.set_cons_zero, List.set_cons_succ]) (hCont (v222, gb225) _ ⟨hHeld, (rx (Kd.R_mono HO223.out (fun _ hk => hk.2))), (rx (Kd.R_mono HO_220000.out (fun _ hk => hk.2))), (kx BK211.out), (kx BK212.out), (kx BK219.out), (kx BK225.out), GW225.out, GE225.out, NB211_225.out, NB225_211.out, NB212_225.out, NB225_212.out, NB219_225.out, NB225_219.out, (zb4 HB.out GE211.out GE212.out GE219.out GE225.out)⟩)
       ·skip
        refine box_step ?hg (N := 8) ?hd (cs := #[.slice none 0 0]) (t := 31) ?hr ?_; (case hd => rfl); (case hg => rfl); (case hr => first | (go_simp; done) | (go_simp; rfl))
        intro gb225 hg w22 hbox hb
        have BK225 := am (hbox)
        have GW225 := zge hg (zb3 HB.out GE211.out GE212.out GE219.out)
        have GE225 := zge hg (zb3 HB.out GE211.out GE212.out GE219.out)
        obtain ⟨NB211_225, NB225_211⟩ := zne hg BK211
        obtain ⟨NB212_225, NB225_212⟩ := zne hg BK212
        obtain ⟨NB219_225, NB225_219⟩ := zne hg BK219
        replace HO_220000 := zo hb HO_220000
        replace BK211 := zk hb BK211
        replace BK212 := zk hb BK212
        replace BK219 := zk hb BK219
        replace HB := zs3 hb HB GE211 GE212 GE219
        clear hb hbox hg
        refine hK.out _ _ ⟨ct BK219.out 0, ((HB.out.cell (World.block_lt_of_cell? w _ hw220_0)).trans hw220_0), ((HB.out.cell (World.block_lt_of_cell? w _ hw220_1)).trans hw220_1), ((HB.out.cell (World.block_lt_of_cell? w _ hw220_2)).trans hw220_2), ((HB.out.cell (World.block_lt_of_cell? w _ hw220_3)).trans hw220_3)⟩ (fun hHeld => ?_)
        clear hK K
        refine znm 8 ?_
        refine zon 5 #[true, true, true, true, true, true, false, false, false, true, false, false] HT_ (fun K hK => ?_)
        refine goes_ Try.func9 (by kernel_rfl) rfl #[.agg #[.slice Ao20 x220000_1.length co20], .agg #[.int .i64 ((rd_T35 l1 x7_1).f0), .string ((rd_T35 l1 x7_1).f1), .string ((rd_T35 l1 x7_1).f2), .string ((rd_T35 l1 x7_1).f3)]] (by rfl) rfl rfl zr ?_
        with_reducible refine (spec_DoAct.calls k1 _ _ x220000_1 ((rd_T35 l1 x7_1).f0) ((rd_T35 l1 x7_1).f1) ((rd_T35 l1 x7_1).f2) ((rd_T35 l1 x7_1).f3) t221 t224 _ ?side1 ?side2 A18.out).mono ?_
        (case side1 => repeat (first | exact (Kd.R_reads' HO_220000.out).2.2 | (with_reducible refine Kd.C_alloc ?_ _) | (with_reducible refine Kd.C_drewN ?_ _) | (with_reducible refine Kd.C_drew ?_)))
        (case side2 => exact (Kd.R_reads' HO_220000.out).2.1)
        rintro e w23 ⟨v222, rfl, ho0, hb⟩
        refine ⟨_, rfl, ?_⟩
        have HO223 := am (Kd.R_lower (Kd.R_new' ho0 (Kd.R_lt (rx HO_220000.out))) (below_size (zb4 HB.out GE211.out GE212.out GE219.out GE225.out)))
        replace HO_220000 := am (Kd.R_elder' (rx HO_220000.out) (Kd.R_base ho0) hb)
        replace BK211 := zk hb BK211
        replace BK212 := zk hb BK212
        replace BK219 := zk hb BK219
        replace BK225 := zk hb BK225
        replace HB := zs4 hb HB GE211 GE212 GE219 GE225
        refine hK.out _ _ ⟨ct BK219.out 0, ((HB.out.cell (World.block_lt_of_cell? w _ hw220_0)).trans hw220_0), ((HB.out.cell (World.block_lt_of_cell? w _ hw220_1)).trans hw220_1), ((HB.out.cell (World.block_lt_of_cell? w _ hw220_2)).trans hw220_2), ((HB.out.cell (World.block_lt_of_cell? w _ hw220_3)).trans hw220_3)⟩ (fun hHeld => ?_)
        clear hK K
        refine znm 27 ?_
        refine zpu 6 21 #[true, true, true, true, true, true, true, false, false, true, false, false] HT_ ?_
        refine zpu 7 28 #[true, true, true, true, true, true, true, true, false, true, false, false] HT_ ?_
        refine zpu 8 29 #[true, true, true, true, true, true, true, true, true, true, false, false] HT_ ?_
        exact norm_ (by simp only [putAll, Act.put, List.setIfInBounds_toArray, List.set_cons_zero, List.set_cons_succ]) (hCont (v222, gb225) _ ⟨hHeld, (rx (Kd.R_mono HO223.out (fun _ hk => hk.2))), (rx (Kd.R_mono HO_220000.out (fun _ hk => hk.2))), (kx BK211.out), (kx BK212.out), (kx BK219.out), (kx BK225.out), GW225.out, GE225.out, NB211_225.out, NB225_211.out, NB212_225.out, NB225_212.out, NB219_225.out, NB225_219.out, (zb4 HB.out GE211.out GE212.out GE219.out GE225.out)⟩)
      rintro ⟨v222, gb225⟩ w24 ⟨hS_, h0_, h1_, h2_, h3_, h4_, h5_, h6_, h7_, h8_, h9_, h10_, h11_, h12_, h13_, h14_⟩
      have n0_ : Aside0 (Kd.R k66 66 w24 w.heap.size (fun k_ => some k_ ≠ (.slice Ao20 x220000_1.length co20 : Value).ownBlock) v222 t221) := ⟨h0_⟩
      have n1_ : Aside0 (Kd.R k66 66 w24 w.heap.size (fun k_ => some k_ ≠ (v222 : Value).ownBlock) (.slice Ao20 x220000_1.length co20) x220000_1) := ⟨h1_⟩
      have n2_ : Aside0 (w24.heap[gb211]? = some (.cells #[.slice A0_0 l0_0.length c0_0] 31 (0, 0))) := ⟨h2_⟩
      have n3_ : Aside0 (w24.heap[gb212]? = some (.cells #[.slice none 0 0] 31 (0, 0))) := ⟨h3_⟩
      have n4_ : Aside0 (w24.heap[gb219]? = some (.cells #[.slice Ao20 x220000_1.length co20] 31 (0, 0))) := ⟨h4_⟩
      have n5_ : Aside0 (w24.heap[gb225]? = some (.cells #[.slice none 0 0] 31 (0, 0))) := ⟨h5_⟩
      have n6_ : Aside0 (w.heap.size ≤ gb225) := ⟨h6_⟩
      have n7_ : Aside0 (w.heap.size ≤ gb225) := ⟨h7_⟩
      have n8_ : Aside0 (gb211 ≠ gb225) := ⟨h8_⟩
      have n9_ : Aside0 (gb225 ≠ gb211) := ⟨h9_⟩
      have n10_ : Aside0 (gb212 ≠ gb225) := ⟨h10_⟩
      have n11_ : Aside0 (gb225 ≠ gb212) := ⟨h11_⟩
      have n12_ : Aside0 (gb219 ≠ gb225) := ⟨h12_⟩
      have n13_ : Aside0 (gb225 ≠ gb219) := ⟨h13_⟩
      have n14_ : Aside0 (Below w.heap.size w w24) := ⟨h14_⟩
      clear HO_220000 BK211 BK212 BK219 HB h0_ h1_ h2_ h3_ h4_ h5_ h6_ h7_ h8_ h9_ h10_ h11_ h12_ h13_ h14_
      have HO223 := n0_
      have HO_220000 := n1_
      have BK211 := n2_
      have BK212 := n3_
      have BK219 := n4_
      have BK225 := n5_
      have GW225 := n6_
      have GE225 := n7_
      have NB211_225 := n8_
      have NB225_211 := n9_
      have NB212_225 := n10_
      have NB225_212 := n11_
      have NB219_225 := n12_
      have NB225_219 := n13_
      have HB := n14_
      clear n0_ n1_ n2_ n3_ n4_ n5_ n6_ n7_ n8_ n9_ n10_ n11_ n12_ n13_ n14_
      have hHeld : w24.cell? ⟨gb219, 0, none⟩ = some (.slice Ao20 x220000_1.length co20) ∧ w24.cell? (ad220.add ((x7_1).toNat * 4)) = some (.int .i64 ((rd_T35 l1 x7_1).f0)) ∧ w24.cell? ⟨(ad220.add ((x7_1).toNat * 4)).block, (ad220.add ((x7_1).toNat * 4)).off + 1, none⟩ = some (.string ((rd_T35 l1 x7_1).f1)) ∧ w24.cell? ⟨(ad220.add ((x7_1).toNat * 4)).block, (ad220.add ((x7_1).toNat * 4)).off + 2, none⟩ = some (.string ((rd_T35 l1 x7_1).f2)) ∧ w24.cell? ⟨(ad220.add ((x7_1).toNat * 4)).block, (ad220.add ((x7_1).toNat * 4)).off + 3, none⟩ = some (.string ((rd_T35 l1 x7_1).f3)) := hS_
      obtain ⟨Ao25, co25, eo25⟩ := Kd.R_slice HO223.out
      (first | subst eo25 | (injection eo25 with f1_ f2_ f3_; have f4_ := f1_.symm; have f5_ := f3_.symm; clear f1_ f2_ f3_; subst f4_; subst f5_))
      refine norm_ (a' := ?_) ?_ ?_
      rotate_left
      ·simp only [putAll, Act.put, List.setIfInBounds_toArray, List.set_cons_zero, List.set_cons_succ]
       rfl
      refine zon 10 #[true, true, true, true, true, true, true, true, true, true, true, false] HT_ (fun K hK => ?_)
      have hs26 : w24.cell? ⟨gb225, 0, none⟩ = some (.slice none 0 0) := ct BK225.out 0
      have hfs26 := blk_frozen BK225.out 0
      have hns26_0 := NB211_225.out
      have hns26_1 := NB212_225.out
      have hns26_2 := NB219_225.out
      have hms26_0 := NB225_211.out
      have hms26_1 := NB225_212.out
      have hms26_2 := NB225_219.out
      refine skip_ (w1 := ?_) (by rfl) rfl ?_ ?_
      rotate_left
      ·go_simp
       rfl
      refine hK.out _ _ ⟨((cell_far (p := ⟨gb225, _, none⟩) NB219_225.out _).trans (hHeld.1)), ((cell_far (p := ⟨gb225, _, none⟩) (by first | exact Nat.ne_of_lt (Nat.lt_of_lt_of_le (by have := World.block_lt_of_cell? _ _ hw220_0; first | rwa [add_block] at this | exact this) GW225.out) | (rw [add_block]; exact Nat.ne_of_lt (Nat.lt_of_lt_of_le (by have := World.block_lt_of_cell? _ _ hw220_0; first | rwa [add_block] at this | exact this) GW225.out)) | (show (Addr.add _ _).block ≠ _; rw [add_block]; exact Nat.ne_of_lt (Nat.lt_of_lt_of_le (by have := World.block_lt_of_cell? _ _ hw220_0; first | rwa [add_block] at this | exact this) GW225.out)) | (dsimp only; exact Nat.ne_of_lt (Nat.lt_of_lt_of_le (by have := World.block_lt_of_cell? _ _ hw220_0; first | rwa [add_block] at this | exact this) GW225.out))) _).trans (hHeld.2.1)), ((cell_far (p := ⟨gb225, _, none⟩) (by first | exact Nat.ne_of_lt (Nat.lt_of_lt_of_le (by have := World.block_lt_of_cell? _ _ hw220_1; first | rwa [add_block] at this | exact this) GW225.out) | (rw [add_block]; exact Nat.ne_of_lt (Nat.lt_of_lt_of_le (by have := World.block_lt_of_cell? _ _ hw220_1; first | rwa [add_block] at this | exact this) GW225.out)) | (show (Addr.add _ _).block ≠ _; rw [add_block]; exact Nat.ne_of_lt (Nat.lt_of_lt_of_le (by have := World.block_lt_of_cell? _ _ hw220_1; first | rwa [add_block] at this | exact this) GW225.out)) | (dsimp only; exact Nat.ne_of_lt (Nat.lt_of_lt_of_le (by have := World.block_lt_of_cell? _ _ hw220_1; first | rwa [add_block] at this | exact this) GW225.out))) _).trans (hHeld.2.2.1)), ((cell_far (p := ⟨gb225, _, none⟩) (by first | exact Nat.ne_of_lt (Nat.lt_of_lt_of_le (by have := World.block_lt_of_cell? _ _ hw220_2; first | rwa [add_block] at this | exact this) GW225.out) | (rw [add_block]; exact Nat.ne_of_lt (Nat.lt_of_lt_of_le (by have := World.block_lt_of_cell? _ _ hw220_2; first | rwa [add_block] at this | exact this) GW225.out)) | (show (Addr.add _ _).block ≠ _; rw [add_block]; exact Nat.ne_of_lt (Nat.lt_of_lt_of_le (by have := World.block_lt_of_cell? _ _ hw220_2; first | rwa [add_block] at this | exact this) GW225.out)) | (dsimp only; exact Nat.ne_of_lt (Nat.lt_of_lt_of_le (by have := World.block_lt_of_cell? _ _ hw220_2; first | rwa [add_block] at this | exact this) GW225.out))) _).trans (hHeld.2.2.2.1)), ((cell_far (p := ⟨gb225, _, none⟩) (by first | exact Nat.ne_of_lt (Nat.lt_of_lt_of_le (by have := World.block_lt_of_cell? _ _ hw220_3; first | rwa [add_block] at this | exact this) GW225.out) | (rw [add_block]; exact Nat.ne_of_lt (Nat.lt_of_lt_of_le (by have := World.block_lt_of_cell? _ _ hw220_3; first | rwa [add_block] at this | exact this) GW225.out)) | (show (Addr.add _ _).block ≠ _; rw [add_block]; exact Nat.ne_of_lt (Nat.lt_of_lt_of_le (by have := World.block_lt_of_cell? _ _ hw220_3; first | rwa [add_block] at this | exact this) GW225.out)) | (dsimp only; exact Nat.ne_of_lt (Nat.lt_of_lt_of_le (by have := World.block_lt_of_cell? _ _ hw220_3; first | rwa [add_block] at this | exact this) GW225.out))) _).trans (hHeld.2.2.2.2))⟩ (fun hHeld => ?_)
      clear hK K
      refine zpu 11 9 #[true, true, true, true, true, true, true, true, true, true, true, true] HT_ ?_
      refine zdn HT_ ?_
      have H := HD_.out
      clear HD_
      by_cases c19 : t224 = true
      ·subst c19
       have H1 : (spec_DoActs.l0 k1 l1 (wrap64 (x7_1 + 1)) t221) = some (r1, r2) := by rw [if_pos rfl] at H; exact H
       clear H
       have H := H1
       clear H1
       have H' := Aside0.mk H
       clear H
       obtain ⟨hnb27, hnc27⟩ := zn2 NB225_211
       obtain ⟨hnb28, hnc28⟩ := zn2 NB225_212
       obtain ⟨hnb29, hnc29⟩ := zn2 NB225_219
       obtain ⟨hcz30_0, hfz30_0⟩ := zc1 BK225.out
       obtain ⟨hnb31, hnc31⟩ := zn2 NB219_211
       obtain ⟨hnb32, hnc32⟩ := zn2 NB219_212
       obtain ⟨hcz33_0, hfz33_0⟩ := zc1 BK219.out
       try go_wp2
       go_roundg k1
       case measure => have := HK1.out; omega
       case rel => exact ⟨(wrap64 (x7_1 + 1)), (t221), (.slice Ao25 t221.length co25), (by first | rfl | (simp; done) | (simp [*]; done)), H', ⟨by have := HK1.out; omega⟩, ⟨rx (Kd.R_mono (Kd.R_far (p := ⟨gb219, 0, none⟩) (Kd.R_far (p := ⟨gb225, 0, none⟩) (Kd.R_types (Kd.R_types HO223.out BK225.out (by decide)) BK219.out (by decide)) (fun _ hk => hk.1.2) (.slice Ao25 t221.length co25)) (fun _ hk => hk.2) (.slice Ao25 t221.length co25)) (fun _ hk => trivial))⟩, ⟨zf2 BK211.out NB211_219.out NB211_225.out⟩, ⟨zf2 BK212.out NB212_219.out NB212_225.out⟩, ⟨by (with_reducible repeat (first | refine blk_drewN ?_ _ | refine blk_drew ?_ | refine blk_alloc ?_ _)); refine blk_put (cs := #[.slice Ao20 x220000_1.length co20]) ?_ 0 _ rfl; (with_reducible repeat (first | refine blk_drewN ?_ _ | refine blk_drew ?_ | refine blk_alloc ?_ _)); refine blk_far ?_ NB219_225.out _; (with_reducible repeat (first | refine blk_drewN ?_ _ | refine blk_drew ?_ | refine blk_alloc ?_ _)); exact BK219.out⟩, ⟨zb4 HB.out GE211.out GE212.out GE219.out GE225.out⟩⟩
      ·replace c19 := Bool.eq_false_iff.mpr c19
       subst c19
       have H1 : (some (x220000_1, x7_1)) = some (r1, r2) := by rw [if_neg (show ¬ (false = true) by decide)] at H; exact H
       clear H
       have H := H1
       clear H1
       simp only [Option.some.injEq, Prod.mk.injEq] at H
       obtain ⟨rfl, rfl⟩ := H
       obtain ⟨hnb41, hnc41⟩ := zn2 NB219_211
       obtain ⟨hnb42, hnc42⟩ := zn2 NB219_212
       obtain ⟨hnb43, hnc43⟩ := zn2 NB219_225
       obtain ⟨hcz44_0, hfz44_0⟩ := zc1 BK219.out
       obtain ⟨hnb45, hnc45⟩ := zn2 NB212_211
       obtain ⟨hnb46, hnc46⟩ := zn2 NB212_225
       obtain ⟨hcz47_0, hfz47_0⟩ := zc1 BK212.out
       try go_wp2
       refine bodyPost_ret (results_ct rfl _ _ gb212 31 #[.slice Ao20 x220000_1.length co20] (0, 0) _ rfl (zp1 BK212.out NB212_225.out) Try.underlying31 rfl (by kernel_rfl)) rfl ?_
       exact ⟨_, by first | rfl | (simp [errW_none, errW_some] <;> rfl) | (simp [*, errW_none, errW_some] <;> rfl), rx (Kd.R_mono (Kd.R_far (p := ⟨gb212, 0, none⟩) (Kd.R_far (p := ⟨gb225, 0, none⟩) (Kd.R_types (Kd.R_types HO_220000.out BK225.out (by decide)) BK212.out (by decide)) (fun _ hk => hk.1.2) (.slice Ao25 t221.length co25)) (fun _ hk => hk.2) (.slice Ao20 x220000_1.length co20)) (fun _ hk => trivial)), zb4 HB.out GE211.out GE212.out GE219.out GE225.out⟩
     ·rw [if_neg c17] at H
      exact absurd H (by simp)
    ·rw [if_neg c16] at H
     have c16b0 : decide (x7_1 < (l1.length : Int)) = false := decide_eq_false c16
     have c16b1 : decide ((l1.length : Int) ≤ x7_1) = true := decide_eq_true (by omega)
     clear c16
     simp only [Option.some.injEq, Prod.mk.injEq] at H
     obtain ⟨rfl, rfl⟩ := H
     obtain ⟨hnb48, hnc48⟩ := zn2 NB219_211
     obtain ⟨hnb49, hnc49⟩ := zn2 NB219_212
     obtain ⟨hcz50_0, hfz50_0⟩ := zc1 BK219.out
     obtain ⟨Ao51, co51, eo51⟩ := Kd.R_slice HO_220000.out
     subst eo51
     obtain ⟨hnb52, hnc52⟩ := zn2 NB212_211
     obtain ⟨hcz53_0, hfz53_0⟩ := zc1 BK212.out
     go_wp2
     refine bodyPost_ret (results_ct rfl _ _ gb212 31 #[.slice Ao51 x220000_1.length co51] (0, 0) _ rfl (zp0 BK212.out) Try.underlying31 rfl (by kernel_rfl)) rfl ?_
     exact ⟨_, by first | rfl | (simp [errW_none, errW_some] <;> rfl) | (simp [*, errW_none, errW_some] <;> rfl), rx (Kd.R_mono (Kd.R_far (p := ⟨gb212, 0, none⟩) (Kd.R_types HO_220000.out BK212.out (by decide)) (fun _ hk => hk.2) (.slice Ao51 x220000_1.length co51)) (fun _ hk => trivial)), zb3 HB.out GE211.out GE212.out GE219.out⟩
 ·rw [if_neg c3] at H
  exact absurd H (by simp)

end Go.Proofs.Ytklbkkoojkmjbaa.QFnActs
