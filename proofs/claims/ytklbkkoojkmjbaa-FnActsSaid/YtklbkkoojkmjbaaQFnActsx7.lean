/- Written by the kit's print.py, called by our own print2.sh with one import more; not by print.sh. -/
import Derived.Test.YtklbkkoojkmjbaaQFnActsx0
namespace Go.Proofs.Ytklbkkoojkmjbaa.QFnActs
open Go.RowKit Go.Proofs.YtklbkkoojkmjbaaW.PrintWords Go.Proofs.YtklbkkoojkmjbaaW.PrintLast Go.Proofs.YtklbkkoojkmjbaaW.PrintMore
attribute [local go_sem] max2_int min2_int max_two min_two max_three min_three max_four min_four   -- for this text's walks alone
open Go.Proofs.Ytklbkkoojkmjbaa.Short
set_option linter.unusedVariables false
set_option linter.unusedSimpArgs false

/-! ### spec_l03Without: function 36 -/
def spec_l03Without.l0 : Nat → ByteArray → Int → List (S66) → List (S66) → Option ((List (S66)))
 | 0, _, _, _, _ => none
 | k + 1, x1, x6, x175000, x177000 => if x6 < (x175000.length : Int) then (if 0 ≤ x6 then (if ((rd_T66 x175000 x6).f0).toList = x1.toList then (spec_l03Without.l0 k x1 (wrap64 (x6 + 1)) x175000 x177000) else (if x177000.length < 3518437208883 then (spec_l03Without.l0 k x1 (wrap64 (x6 + 1)) x175000 (x177000 ++ [(⟨(rd_T66 x175000 x6).f0, (rd_T66 x175000 x6).f1, (rd_T66 x175000 x6).f2⟩ : S66)])) else (none))) else (none)) else (some x177000)
def spec_l03Without.f (k : Nat) (l0_0 : List (S66)) (a1 : ByteArray) : Option ((List (S66))) := spec_l03Without.l0 k a1 0 l0_0 ([] : List (S66))
theorem spec_l03Without.mono_l : ∀ k, (∀ y0 y1 y2 y3, LeO (spec_l03Without.l0 k y0 y1 y2 y3) (spec_l03Without.l0 (k + 1) y0 y1 y2 y3))
 | 0 => fun _ _ _ _ r h => by simp [spec_l03Without.l0] at h
 | k + 1 => by
  have ih0 := spec_l03Without.mono_l k
  ·intro y0 y1 y2 y3
   unfold spec_l03Without.l0
   repeat' first
   | (with_reducible exact ih0 _ _ _ _)
   | (with_reducible exact LeO.refl _)
   | (with_reducible exact LeO.none _)
   | (with_reducible refine LeO.ite ?_ ?_)
   | (with_reducible refine LeO.bind ?_ (fun _ => ?_))
   | exact ih0 _ _ _ _
   | exact LeO.none _
   | refine LeO.ite ?_ ?_
   | refine LeO.bind ?_ (fun _ => ?_)
theorem spec_l03Without.mono : ∀ a0 a1 k, LeO (spec_l03Without.f k a0 a1) (spec_l03Without.f (k + 1) a0 a1) := by
 intro a0 a1 k
 have ih0 := spec_l03Without.mono_l k
 unfold spec_l03Without.f
 repeat' first
   | (with_reducible exact ih0 _ _ _ _)
   | (with_reducible exact LeO.refl _)
   | (with_reducible exact LeO.none _)
   | (with_reducible refine LeO.ite ?_ ?_)
   | (with_reducible refine LeO.bind ?_ (fun _ => ?_))
   | exact ih0 _ _ _ _
   | exact LeO.none _
   | refine LeO.ite ?_ ?_
   | refine LeO.bind ?_ (fun _ => ?_)
def spec_l03Without.T6 : Bool × List (List Nat × List Nat) := (true, [([], []), ([0], [0]), ([], []), ([2], [2]), ([], []), ([3, 4], [3, 4]), ([5], [5]), ([6], [6]), ([1, 7], [1, 7]), ([0, 1, 2, 3, 4, 5, 6, 7, 8], []), ([9, 8, 8, 0, 1, 2, 3, 4, 5, 6, 7, 8], [8, 9])])
def spec_l03Without.B6 : List Nat := [0, 1, 0, 4, 0, 28, 60, 124, 255, 511, 1023]
theorem spec_l03Without.tab6 : rtab .any (opsOf Try.f36 6) = spec_l03Without.T6 := by kernel_rfl
theorem spec_l03Without.bits6 : waitsOk spec_l03Without.T6.2 spec_l03Without.B6 = true := by kernel_rfl
set_option maxHeartbeats 8000000 in
set_option maxRecDepth 100000 in
theorem spec_l03Without.calls (k : Nat) (A0_0 : Option Addr) (c0_0 : Nat) (l0_0 : List (S66)) (a1 : ByteArray) (r : List (S66)) (w : World) (hr0_0 : Kd.C k66 w A0_0 l0_0.length l0_0) (hc0_0 : l0_0.length ≤ c0_0) (h : spec_l03Without.f k l0_0 a1 = some r) :
  Calls Try.prog 36 #[.agg #[.slice A0_0 l0_0.length c0_0], .string a1] w fun e w' => ∃ v0_ : Value, e = .returned (.agg #[v0_]) ∧ Kd.R k66 66 w' w.heap.size (fun _ => True) v0_ r ∧ Below w.heap.size w w' := by
 have hu31 := Try.underlying31
 have hu66 := Try.underlying66
 have HR0_0 := Aside0.mk hr0_0
 have HC0_0 := Aside0.mk hc0_0
 clear hr0_0 hc0_0
 have HB := Aside0.mk (Below.refl w.heap.size w)
 have H : (spec_l03Without.l0 k a1 0 l0_0 ([] : List (S66))) = some r := h
 clear h
 have H' := Aside0.mk H
 clear H
 go_enter Try.func36, Try.ntmps36
 go_wp2_with (first | ((with_reducible refine gate_dst (N := 2) rfl ?_); refine box_event rfl (N := 2) rfl (cs := #[.slice A0_0 l0_0.length c0_0]) (t := 31) zrun ?_; intro gb174 hg w3 hbox hb; have BK174 := am (hbox); have GE174 := zge hg (zb0 HB.out); replace HB := zs0 hb HB; clear hb hbox hg) | ((with_reducible refine gate_dst (N := 4) rfl ?_); refine box_event rfl (N := 4) rfl (cs := #[.slice none 0 0]) (t := 31) zrun ?_; intro gb175 hg w4 hbox hb; have BK175 := am (hbox); have GE175 := zge hg (zb1 HB.out GE174.out); obtain ⟨NB174_175, NB175_174⟩ := zne hg BK174; replace BK174 := zk hb BK174; replace HB := zs1 hb HB GE174; clear hb hbox hg) | ((with_reducible refine gate_dst (N := 5) rfl ?_); refine box_event rfl (N := 5) rfl (cs := #[.slice none 0 0]) (t := 31) zrun ?_; intro gb176 hg w5 hbox hb; have BK176 := am (hbox); have GE176 := zge hg (zb2 HB.out GE174.out GE175.out); obtain ⟨NB174_176, NB176_174⟩ := zne hg BK174; obtain ⟨NB175_176, NB176_175⟩ := zne hg BK175; replace BK174 := zk hb BK174; replace BK175 := zk hb BK175; replace HB := zs2 hb HB GE174 GE175; clear hb hbox hg; obtain ⟨hnb6, hnc6⟩ := zn2 NB176_174; obtain ⟨hnb7, hnc7⟩ := zn2 NB176_175; obtain ⟨hcz8_0, hfz8_0⟩ := zc1 BK176.out))
 go_loopg [6] k (fun kq v6 w' => ∃ (x6_1 : Int) (x177000_1 : List (S66)) (u177000 : Value), v6 = .int .i64 x6_1 ∧ Aside0 (spec_l03Without.l0 kq a1 x6_1 l0_0 x177000_1 = some r) ∧ Aside0 (kq ≤ k) ∧ Aside0 (Kd.R k66 66 w' w.heap.size (fun _ => True) u177000 x177000_1) ∧ Aside0 (w'.heap[gb174]? = some (.cells #[(.slice A0_0 l0_0.length c0_0)] 31 (0, 0))) ∧ Aside0 (w'.heap[gb175]? = some (.cells #[(.slice none 0 0)] 31 (0, 0))) ∧ Aside0 (w'.heap[gb176]? = some (.cells #[u177000] 31 (0, 0))) ∧ Aside0 (Below w.heap.size w w'))
 case atStart => exact ⟨(0), (([] : List (S66))), (.slice none 0 0), (by first | rfl | (simp; done) | (simp [*]; done)), H', ⟨Nat.le_refl _⟩, ⟨by first | exact Kd.R_nil _ _ _ _ _ | exact Kd.N_nil _ _ _ _ _ | exact Kd.V_nil _ _ _ _ _ | exact Kd.Q_nil _ _ _ _ _ | exact Kd.S_nil _ _ _ _ _⟩, ⟨zf1 BK174.out NB174_176.out⟩, ⟨zf1 BK175.out NB175_176.out⟩, ⟨by (with_reducible repeat (first | refine blk_drewN ?_ _ | refine blk_drew ?_ | refine blk_alloc ?_ _)); refine blk_put (cs := #[.slice none 0 0]) ?_ 0 _ rfl; (with_reducible repeat (first | refine blk_drewN ?_ _ | refine blk_drew ?_ | refine blk_alloc ?_ _)); exact BK176.out⟩, ⟨zb3 HB.out GE174.out GE175.out GE176.out⟩⟩
 case round =>
  clear H'
  obtain ⟨x6_1, x177000_1, u177000, rfl, HA, HK1, HO_177000, BK174, BK175, BK176, HB⟩ := hrel
  cases gk with
  | zero => exact absurd HA.out (by simp [spec_l03Without.l0])
  | succ k1 =>
   have H := HA.out
   clear HA
   simp only [spec_l03Without.l0] at H
   by_cases c9 : x6_1 < (l0_0.length : Int)
   ·rw [if_pos c9] at H
    have c9b0 : decide (x6_1 < (l0_0.length : Int)) = true := decide_eq_true c9
    have c9b1 : decide ((l0_0.length : Int) ≤ x6_1) = false := decide_eq_false (by omega)
    clear c9
    by_cases c10 : 0 ≤ x6_1
    ·rw [if_pos c10] at H
     have c10b0 : decide (0 ≤ x6_1) = true := decide_eq_true c10
     clear c10
     by_cases c11 : ((rd_T66 l0_0 x6_1).f0).toList = a1.toList
     ·rw [if_pos c11] at H
      have c11b0 : (((rd_T66 l0_0 x6_1).f0).toList == a1.toList) = true := beq_iff_eq.mpr c11
      have c11b1 : (((rd_T66 l0_0 x6_1).f0).toList != a1.toList) = false := bne_eq_false_iff_eq.mpr c11
      clear c11
      have H' := Aside0.mk H
      clear H
      obtain ⟨hnb12, hnc12⟩ := zn2 NB174_175
      obtain ⟨hnb13, hnc13⟩ := zn2 NB174_176
      obtain ⟨hcz14_0, hfz14_0⟩ := zc1 BK174.out
      have p177 : 0 ≤ (x6_1 : Int) := zpq
      have q177 : x6_1 < (l0_0.length : Int) := zpq
      obtain ⟨ad177, e177, hx177_0, hx177_1, hx177_2⟩ := at_T66 HR0_0.out x6_1 p177 q177
      cases e177
      replace hx177_0 := (HB.out.cell (World.block_lt_of_cell? w _ hx177_0)).trans hx177_0
      replace hx177_1 := (HB.out.cell (World.block_lt_of_cell? w _ hx177_1)).trans hx177_1
      replace hx177_2 := (HB.out.cell (World.block_lt_of_cell? w _ hx177_2)).trans hx177_2
      replace p177 := eq_true p177
      replace q177 := eq_true q177
      go_wp2
      go_roundg k1
      case measure => have := HK1.out; omega
      case rel => exact ⟨(wrap64 (x6_1 + 1)), (x177000_1), (u177000), (by first | rfl | (simp; done) | (simp [*]; done)), H', ⟨by have := HK1.out; omega⟩, ⟨rx HO_177000.out⟩, ⟨kx BK174.out⟩, ⟨kx BK175.out⟩, ⟨kx BK176.out⟩, ⟨zb3 HB.out GE174.out GE175.out GE176.out⟩⟩
     ·rw [if_neg c11] at H
      have c11b0 : (((rd_T66 l0_0 x6_1).f0).toList == a1.toList) = false := beq_eq_false_iff_ne.mpr c11
      have c11b1 : (((rd_T66 l0_0 x6_1).f0).toList != a1.toList) = true := bne_iff_ne.mpr c11
      by_cases c15 : x177000_1.length < 3518437208883
      ·rw [if_pos c15] at H
       have LMc15 := Aside0.mk c15
       clear c15
       obtain ⟨y179, hy179⟩ : ∃ y_ : List (S66), y_ = (x177000_1 ++ [(⟨(rd_T66 l0_0 x6_1).f0, (rd_T66 l0_0 x6_1).f1, (rd_T66 l0_0 x6_1).f2⟩ : S66)]) := ⟨_, rfl⟩
       replace H : (spec_l03Without.l0 k1 a1 (wrap64 (x6_1 + 1)) l0_0 y179) = some r := by first | (rw [hy179]; with_reducible exact H) | (have H2_ := (Option.bind_some _ _).symm.trans H; rw [hy179]; with_reducible exact H2_) | (have H2_ := (Option.bind_some _ _).symm.trans H; with_reducible exact H2_) | with_reducible exact H | (rw [hy179]; exact H) | exact H
       have Ny179 := Aside0.mk hy179
       clear hy179
       have H' := Aside0.mk H
       clear H
       obtain ⟨hnb16, hnc16⟩ := zn2 NB174_175
       obtain ⟨hnb17, hnc17⟩ := zn2 NB174_176
       obtain ⟨hcz18_0, hfz18_0⟩ := zc1 BK174.out
       have p177 : 0 ≤ (x6_1 : Int) := zpq
       have q177 : x6_1 < (l0_0.length : Int) := zpq
       obtain ⟨ad177, e177, hx177_0, hx177_1, hx177_2⟩ := at_T66 HR0_0.out x6_1 p177 q177
       cases e177
       replace hx177_0 := (HB.out.cell (World.block_lt_of_cell? w _ hx177_0)).trans hx177_0
       replace hx177_1 := (HB.out.cell (World.block_lt_of_cell? w _ hx177_1)).trans hx177_1
       replace hx177_2 := (HB.out.cell (World.block_lt_of_cell? w _ hx177_2)).trans hx177_2
       replace p177 := eq_true p177
       replace q177 := eq_true q177
       try go_wp2
       replace HO_177000 := am (Kd.R_drew HO_177000.out)
       replace BK174 := zw BK174
       replace BK175 := zw BK175
       replace BK176 := zw BK176
       replace HB := am (below_drew1 HB.out)
       have p178 : 0 ≤ (x6_1 : Int) := zpq
       have q178 : x6_1 < (l0_0.length : Int) := zpq
       obtain ⟨ad178, e178, hx178_0, hx178_1, hx178_2⟩ := at_T66 HR0_0.out x6_1 p178 q178
       have hw178_2 := hx178_2
       have hw178_1 := hx178_1
       have hw178_0 := hx178_0
       obtain rfl : ad177 = ad178 := (by injection e178)
       replace hx178_0 := (HB.out.cell (World.block_lt_of_cell? w _ hx178_0)).trans hx178_0
       replace hx178_1 := (HB.out.cell (World.block_lt_of_cell? w _ hx178_1)).trans hx178_1
       replace hx178_2 := (HB.out.cell (World.block_lt_of_cell? w _ hx178_2)).trans hx178_2
       replace p178 := eq_true p178
       replace q178 := eq_true q178
       refine start_ (n := 11) (S := fun w' => w'.cell? ⟨gb176, 0, none⟩ = some (u177000) ∧ w'.cell? ⟨gb174, 0, none⟩ = some (.slice (some ad177) l0_0.length c0_0) ∧ w'.cell? (ad177.add ((x6_1).toNat * 3)) = some (.string ((rd_T66 l0_0 x6_1).f0)) ∧ w'.cell? ⟨(ad177.add ((x6_1).toNat * 3)).block, (ad177.add ((x6_1).toNat * 3)).off + 1, none⟩ = some (.string ((rd_T66 l0_0 x6_1).f1)) ∧ w'.cell? ⟨(ad177.add ((x6_1).toNat * 3)).block, (ad177.add ((x6_1).toNat * 3)).off + 2, none⟩ = some (.int .i64 ((rd_T66 l0_0 x6_1).f2))) (ds := [10]) #[false, false, false, false, false, false, false, false, false, false, false] (by kernel_rfl) rfl rfl ⟨ct BK176.out 0, ct BK174.out 0, ((HB.out.cell (World.block_lt_of_cell? w _ hw178_0)).trans hw178_0), ((HB.out.cell (World.block_lt_of_cell? w _ hw178_1)).trans hw178_1), ((HB.out.cell (World.block_lt_of_cell? w _ hw178_2)).trans hw178_2)⟩ (fun hHeld => ?_); refine with_tabW spec_l03Without.tab6 spec_l03Without.bits6 (fun HT_ HW_ => ?_)
       generalize wr.drew = w19 at HO_177000 BK174 BK175 BK176 HB hx178_0 hx178_1 hx178_2 hHeld ⊢
       refine zpu 0 23 #[true, false, false, false, false, false, false, false, false, false, false] HT_ ?_
       refine zpu 2 25 #[true, false, true, false, false, false, false, false, false, false, false] HT_ ?_
       refine zpu 4 27 #[true, false, true, false, true, false, false, false, false, false, false] HT_ ?_
       refine ztk5 1 24 #[true, true, true, false, true, false, false, false, false, false, false] HT_ HW_ hHeld ?_
       refine ztk5 3 26 #[true, true, true, true, true, false, false, false, false, false, false] HT_ HW_ hHeld ?_
       refine zpu 5 28 #[true, true, true, true, true, true, false, false, false, false, false] HT_ ?_
       refine ztk5 6 29 #[true, true, true, true, true, true, true, false, false, false, false] HT_ HW_ hHeld ?_
       refine zon 7 #[true, true, true, true, true, true, true, true, false, false, false] HT_ (fun K hK => ?_)
       refine value_ (w1 := ?_) (v := ?_) (by rfl) rfl ?_ ?_
       rotate_left 2
       ·go_simp
        constructor
        ·rfl
        ·rfl
       refine hK.out _ _ ⟨(blk_cell (blk_alloc BK176.out _) 0).trans rfl, (blk_cell (blk_alloc BK174.out _) 0).trans rfl, (World.cell?_alloc_lt _ _ _ (World.block_lt_of_cell? _ _ (((HB.out.cell (World.block_lt_of_cell? w _ hw178_0)).trans hw178_0)))).trans (((HB.out.cell (World.block_lt_of_cell? w _ hw178_0)).trans hw178_0)), (World.cell?_alloc_lt _ _ _ (World.block_lt_of_cell? _ _ (((HB.out.cell (World.block_lt_of_cell? w _ hw178_1)).trans hw178_1)))).trans (((HB.out.cell (World.block_lt_of_cell? w _ hw178_1)).trans hw178_1)), (World.cell?_alloc_lt _ _ _ (World.block_lt_of_cell? _ _ (((HB.out.cell (World.block_lt_of_cell? w _ hw178_2)).trans hw178_2)))).trans (((HB.out.cell (World.block_lt_of_cell? w _ hw178_2)).trans hw178_2))⟩ (fun hHeld => ?_)
       clear hK K
       refine znm 30 ?_
       refine zon 8 #[true, true, true, true, true, true, true, true, true, false, false] HT_ (fun K hK => ?_)
       refine Kd.R_append_step k66 (w0 := w) w.heap.size (by rfl) (.tmp 24) (.tmp 30) 29 66 (.agg #[(.string ⟨#[]⟩), (.string ⟨#[]⟩), (.int .i64 0)]) 40 rfl Try.underlying29 info66 rfl (by decide) (by omega) u177000 x177000_1 (⟨(rd_T66 l0_0 x6_1).f0, (rd_T66 l0_0 x6_1).f1, (rd_T66 l0_0 x6_1).f2⟩ : S66) [.string ((rd_T66 l0_0 x6_1).f0), .string ((rd_T66 l0_0 x6_1).f1), .int .i64 ((rd_T66 l0_0 x6_1).f2)] (fun _ => True) (fun _ => False) rfl rfl ?aP (fun _ hk => hk.elim) ?aF ?aO ?aB ?aS ?aL ?_
       (case aP => exact k66_mkM _ _ _ (⟨(rd_T66 l0_0 x6_1).f0, (rd_T66 l0_0 x6_1).f1, (rd_T66 l0_0 x6_1).f2⟩ : S66))
       (case aB => exact (zb3 HB.out GE174.out GE175.out GE176.out))
       (case aF => exact (fun _ _ => trivial))
       (case aO => exact (rx HO_177000.out))
       (case aS => exact (below_size (zb3 HB.out GE174.out GE175.out GE176.out)))
       (case aL => have := LMc15.out; omega)
       intro v180 w20 ho hb hg hat
       rw [← Ny179.out] at ho
       have HO181 := am (ho)
       replace BK174 := am (blk_grown (g := gb174) (o := .cells #[.slice (some ad177) l0_0.length c0_0] 31 (0, 0)) (kx BK174.out) hg (Kd.R_ne HO_177000.out BK174.out (by decide)))
       replace BK175 := am (blk_grown (g := gb175) (o := .cells #[.slice none 0 0] 31 (0, 0)) (kx BK175.out) hg (Kd.R_ne HO_177000.out BK175.out (by decide)))
       replace BK176 := am (blk_grown (g := gb176) (o := .cells #[u177000] 31 (0, 0)) (kx BK176.out) hg (Kd.R_ne HO_177000.out BK176.out (by decide)))
       replace HB := am (hb)
       clear HO_177000 ho hb hg hat
       obtain ⟨Ao21, co21, eo21⟩ := Kd.R_slice HO181.out
       (first | subst eo21 | (injection eo21 with f1_ f2_ f3_; have f4_ := f1_.symm; have f5_ := f3_.symm; clear f1_ f2_ f3_; subst f4_; subst f5_))
       refine hK.out _ _ ⟨ct BK176.out 0, ct BK174.out 0, ((HB.out.cell (World.block_lt_of_cell? w _ hw178_0)).trans hw178_0), ((HB.out.cell (World.block_lt_of_cell? w _ hw178_1)).trans hw178_1), ((HB.out.cell (World.block_lt_of_cell? w _ hw178_2)).trans hw178_2)⟩ (fun hHeld => ?_)
       clear hK K
       refine znm 31 ?_
       refine zpu 9 32 #[true, true, true, true, true, true, true, true, true, true, false] HT_ ?_
       refine last_ (i := 10) (N := none) #[true, true, true, true, true, true, true, true, true, true, true] rfl rfl (one_of HT_.out (by kernel_rfl)) (by decide) (fun K hK => ?_)
       have hs22 : w20.cell? ⟨gb176, 0, none⟩ = some (u177000) := ct BK176.out 0
       have hfs22 := blk_frozen BK176.out 0
       have hns22_0 := NB174_176.out
       have hns22_1 := NB175_176.out
       have hms22_0 := NB176_174.out
       have hms22_1 := NB176_175.out
       refine skip_ (w1 := ?_) (by rfl) rfl ?_ ?_
       rotate_left
       ·go_simp
        rfl
       refine hK.out _ _ ?_
       clear hK K
       refine zdn HT_ ?_
       try go_wp2
       go_roundg k1
       case measure => have := HK1.out; omega
       case rel => exact ⟨(wrap64 (x6_1 + 1)), (y179), (.slice Ao21 y179.length co21), (by first | rfl | (simp; done) | (simp [*]; done)), H', ⟨by have := HK1.out; omega⟩, ⟨rx (Kd.R_mono (Kd.R_far (p := ⟨gb176, 0, none⟩) (Kd.R_types HO181.out BK176.out (by decide)) (fun _ hk => hk.2) (.slice Ao21 y179.length co21)) (fun _ hk => trivial))⟩, ⟨zf1 BK174.out NB174_176.out⟩, ⟨zf1 BK175.out NB175_176.out⟩, ⟨by (with_reducible repeat (first | refine blk_drewN ?_ _ | refine blk_drew ?_ | refine blk_alloc ?_ _)); refine blk_put (cs := #[u177000]) ?_ 0 _ rfl; (with_reducible repeat (first | refine blk_drewN ?_ _ | refine blk_drew ?_ | refine blk_alloc ?_ _)); exact BK176.out⟩, ⟨zb3 HB.out GE174.out GE175.out GE176.out⟩⟩
      ·rw [if_neg c15] at H
       exact absurd H (by simp)
    ·rw [if_neg c10] at H
     exact absurd H (by simp)
   ·rw [if_neg c9] at H
    have c9b0 : decide (x6_1 < (l0_0.length : Int)) = false := decide_eq_false c9
    have c9b1 : decide ((l0_0.length : Int) ≤ x6_1) = true := decide_eq_true (by omega)
    clear c9
    obtain rfl := Option.some.inj H
    obtain ⟨hnb23, hnc23⟩ := zn2 NB174_175
    obtain ⟨hnb24, hnc24⟩ := zn2 NB174_176
    obtain ⟨hcz25_0, hfz25_0⟩ := zc1 BK174.out
    obtain ⟨hnb26, hnc26⟩ := zn2 NB176_175
    obtain ⟨hcz27_0, hfz27_0⟩ := zc1 BK176.out
    obtain ⟨Ao28, co28, eo28⟩ := Kd.R_slice HO_177000.out
    subst eo28
    obtain ⟨hcz29_0, hfz29_0⟩ := zc1 BK175.out
    go_wp2
    refine bodyPost_ret (results_cell_row rfl _ _ gb175 31 #[.slice Ao28 x177000_1.length co28] (0, 0) _ rfl (zp0 BK175.out) Try.underlying31 rfl (by kernel_rfl)) rfl ?_
    exact ⟨_, by first | rfl | (simp [errW_none, errW_some] <;> rfl) | (simp [*, errW_none, errW_some] <;> rfl), rx (Kd.R_mono (Kd.R_far (p := ⟨gb175, 0, none⟩) (Kd.R_types HO_177000.out BK175.out (by decide)) (fun _ hk => hk.2) (.slice Ao28 x177000_1.length co28)) (fun _ hk => trivial)), zb3 HB.out GE174.out GE175.out GE176.out⟩

end Go.Proofs.Ytklbkkoojkmjbaa.QFnActs
