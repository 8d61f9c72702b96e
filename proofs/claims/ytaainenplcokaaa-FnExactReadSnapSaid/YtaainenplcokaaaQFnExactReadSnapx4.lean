/- Written by the kit's print.py, called by our own print2.sh with one import more; not by print.sh. -/
import Derived.Test.YtaainenplcokaaaQFnExactReadSnapx0
import Derived.Test.YtaainenplcokaaaQFnExactReadSnapx1
import Derived.Test.YtaainenplcokaaaQFnExactReadSnapx2
import Derived.Test.YtaainenplcokaaaQFnExactReadSnapx3
namespace Go.Proofs.Ytaainenplcokaaa.QFnExactReadSnap
open Go.RowKit Go.Proofs.YtaainenplcokaaaW.PrintWords Go.Proofs.YtaainenplcokaaaW.PrintLast Go.Proofs.YtaainenplcokaaaW.PrintMore
attribute [local go_sem] max2_int min2_int max_two min_two max_three min_three max_four min_four   -- for this text's walks alone
set_option linter.unusedVariables false
set_option linter.unusedSimpArgs false

/-! ### spec_SnapText: function 127 -/
def spec_SnapText.j0 : Nat → ByteArray → Bool → Int → Int → List Int → ByteArray → Option (ByteArray × Bool)
  | 0, _, _, _, _, _, _ => none
  | k + 1, x4, x32, x164000, x164001, x164002, x164003 => if x32 = true then (some ((⟨#[]⟩ : ByteArray), false)) else ((spec_l01Var.f k x164000).bind fun t168 => ((spec_l01Var.f k x164001).bind fun t169 => (if t168.size + t169.size ≤ 9223372036854775807 then ((spec_l05Short.f k x4).bind fun t170 => (if (t168 ++ t169).size + t170.size ≤ 9223372036854775807 then ((spec_l05Short.f k x164003).bind fun t171 => (if ((t168 ++ t169) ++ t170).size + t171.size ≤ 9223372036854775807 then (if (wrap64 (((((t168 ++ t169) ++ t170) ++ t171).size : Int) + 4)) > 20000 then (some ((⟨#[]⟩ : ByteArray), false)) else ((spec_Sealed.f k (((t168 ++ t169) ++ t170) ++ t171)).bind fun bt172 => (some (bt172.1, bt172.2)))) else (none))) else (none))) else (none))))
def spec_SnapText.f (k : Nat) (a0_0 : Int) (a0_1 : Int) (l0_2 : List Int) (a0_3 : ByteArray) : Option (ByteArray × Bool) := (spec_ConfText.f k l0_2).bind fun bt164 => (if bt164.2 = true then ((spec_l01In.f a0_0 0 1000000).bind fun t166 => (if t166 = true then ((spec_l01In.f a0_1 0 100000).bind fun t167 => (if t167 = true then (spec_SnapText.j0 k bt164.1 (decide ((a0_3.size : Int) > 20000)) a0_0 a0_1 l0_2 a0_3) else (spec_SnapText.j0 k bt164.1 true a0_0 a0_1 l0_2 a0_3))) else (spec_SnapText.j0 k bt164.1 true a0_0 a0_1 l0_2 a0_3))) else (spec_SnapText.j0 k bt164.1 true a0_0 a0_1 l0_2 a0_3))
theorem spec_SnapText.mono_l : ∀ k, (∀ y0 y1 y2 y3 y4 y5, LeO (spec_SnapText.j0 k y0 y1 y2 y3 y4 y5) (spec_SnapText.j0 (k + 1) y0 y1 y2 y3 y4 y5))
  | 0 => fun _ _ _ _ _ _ r h => by simp [spec_SnapText.j0] at h
  | k + 1 => by
    have ih0 := spec_SnapText.mono_l k
    · intro y0 y1 y2 y3 y4 y5
      unfold spec_SnapText.j0
      repeat' first
      | (with_reducible exact ih0 _ _ _ _ _ _)
      | (with_reducible exact spec_ConfText.mono _ _)
      | (with_reducible exact spec_Sealed.mono _ _)
      | (with_reducible exact spec_l01Var.mono _ _)
      | (with_reducible exact spec_l05Short.mono _ _)
      | (with_reducible exact LeO.refl _)
      | (with_reducible exact LeO.none _)
      | (with_reducible refine LeO.ite ?_ ?_)
      | (with_reducible refine LeO.bind ?_ (fun _ => ?_))
      | exact ih0 _ _ _ _ _ _
      | exact spec_ConfText.mono _ _
      | exact spec_Sealed.mono _ _
      | exact spec_l01Var.mono _ _
      | exact spec_l05Short.mono _ _
      | exact LeO.none _
      | refine LeO.ite ?_ ?_
      | refine LeO.bind ?_ (fun _ => ?_)
theorem spec_SnapText.mono : ∀ a0 a1 a2 a3 k, LeO (spec_SnapText.f k a0 a1 a2 a3) (spec_SnapText.f (k + 1) a0 a1 a2 a3) := by
  intro a0 a1 a2 a3 k
  have ih0 := spec_SnapText.mono_l k
  unfold spec_SnapText.f
  repeat' first
      | (with_reducible exact ih0 _ _ _ _ _ _)
      | (with_reducible exact spec_ConfText.mono _ _)
      | (with_reducible exact spec_Sealed.mono _ _)
      | (with_reducible exact spec_l01Var.mono _ _)
      | (with_reducible exact spec_l05Short.mono _ _)
      | (with_reducible exact LeO.refl _)
      | (with_reducible exact LeO.none _)
      | (with_reducible refine LeO.ite ?_ ?_)
      | (with_reducible refine LeO.bind ?_ (fun _ => ?_))
      | exact ih0 _ _ _ _ _ _
      | exact spec_ConfText.mono _ _
      | exact spec_Sealed.mono _ _
      | exact spec_l01Var.mono _ _
      | exact spec_l05Short.mono _ _
      | exact LeO.none _
      | refine LeO.ite ?_ ?_
      | refine LeO.bind ?_ (fun _ => ?_)
def spec_SnapText.T4 : Bool × List (List Nat × List Nat) := (true, [([], []), ([0], [0]), ([1], [1]), ([], []), ([3], [3]), ([4, 2], [4]), ([2, 5], [2, 5]), ([], []), ([7, 5], [7]), ([6, 8], [6, 8]), ([], []), ([10], [10]), ([11, 8], [11]), ([9, 12], [9, 12]), ([13, 12, 0, 1, 2, 3, 4, 5, 6, 7, 8, 9, 10, 11, 12, 13], [13])])
def spec_SnapText.B4 : List Nat := [0, 1, 3, 0, 8, 31, 63, 0, 191, 511, 0, 1024, 3519, 8191, 16383]
theorem spec_SnapText.tab4 : rtab .any (opsOf Try.f127 4) = spec_SnapText.T4 := by kernel_rfl
theorem spec_SnapText.bits4 : waitsOk spec_SnapText.T4.2 spec_SnapText.B4 = true := by kernel_rfl
set_option maxHeartbeats 8000000 in
set_option maxRecDepth 100000 in
theorem spec_SnapText.calls (k : Nat) (a0_0 : Int) (a0_1 : Int) (A0_2 : Option Addr) (c0_2 : Nat) (l0_2 : List Int) (a0_3 : ByteArray) (r1 : ByteArray) (r2 : Bool) (w : World) (hr0_2 : Kd.C (Kd.int .i64) w A0_2 l0_2.length l0_2) (hc0_2 : l0_2.length ≤ c0_2) (h : spec_SnapText.f k a0_0 a0_1 l0_2 a0_3 = some (r1, r2)) :
    Calls Try.prog 127 #[.agg #[.int .i64 a0_0, .int .i64 a0_1, .slice A0_2 l0_2.length c0_2, .string a0_3]] w fun e w' => e = .returned (.tuple #[.string r1, .bool r2]) ∧ Below w.heap.size w w' := by
  have hu95 := Try.underlying95
  have HR0_2 := Aside0.mk hr0_2
  have HC0_2 := Aside0.mk hc0_2
  clear hr0_2 hc0_2
  have HB := Aside0.mk (Below.refl w.heap.size w)
  have H : ((spec_ConfText.f k l0_2).bind fun bt164 => (if bt164.2 = true then ((spec_l01In.f a0_0 0 1000000).bind fun t166 => (if t166 = true then ((spec_l01In.f a0_1 0 100000).bind fun t167 => (if t167 = true then (spec_SnapText.j0 k bt164.1 (decide ((a0_3.size : Int) > 20000)) a0_0 a0_1 l0_2 a0_3) else (spec_SnapText.j0 k bt164.1 true a0_0 a0_1 l0_2 a0_3))) else (spec_SnapText.j0 k bt164.1 true a0_0 a0_1 l0_2 a0_3))) else (spec_SnapText.j0 k bt164.1 true a0_0 a0_1 l0_2 a0_3))) = some (r1, r2) := h
  clear h
  replace H := Option.bind_eq_some_iff.mp H
  obtain ⟨⟨t164, t165⟩, A20, H⟩ := H
  replace H : (if t165 = true then ((spec_l01In.f a0_0 0 1000000).bind fun t166 => (if t166 = true then ((spec_l01In.f a0_1 0 100000).bind fun t167 => (if t167 = true then (spec_SnapText.j0 k t164 (decide ((a0_3.size : Int) > 20000)) a0_0 a0_1 l0_2 a0_3) else (spec_SnapText.j0 k t164 true a0_0 a0_1 l0_2 a0_3))) else (spec_SnapText.j0 k t164 true a0_0 a0_1 l0_2 a0_3))) else (spec_SnapText.j0 k t164 true a0_0 a0_1 l0_2 a0_3)) = some (r1, r2) := H
  have A2 := Aside0.mk A20
  clear A20
  have HC3 := Aside0.mk H
  clear H
  go_enter Try.func127, Try.ntmps127
  go_upto_region 2 with (first | ((with_reducible refine gate_dst (N := 1) rfl ?_); (try (refine gate_guard (by rfl) ?_; dsimp only)); refine box_event ?hg (N := 1) ?hd (cs := #[.int .i64 a0_0, .int .i64 a0_1, .slice A0_2 l0_2.length c0_2, .string a0_3]) (t := 95) ?hr ?_; (case hd => rfl); (case hg => rfl); (case hr => first | (go_simp; done) | (go_simp; rfl)); intro gb163 hg w4 hbox hb; have n0_ := Aside0.mk (below_step (by repeat (first | (with_reducible first | exact HB.out | apply below_alloc | apply pw_below_drewN | apply below_drew1) | exact HB.out)) hb); have n1_ := Aside0.mk (hbox); have n2_ := Aside0.mk ((by rw [hg]; exact (below_size (by repeat (first | (with_reducible first | exact HB.out | apply below_alloc | apply pw_below_drewN | apply below_drew1) | exact HB.out))) : w.heap.size ≤ gb163)); have n3_ := Aside0.mk ((by rw [hg]; exact (below_size (by repeat (first | (with_reducible first | exact HB.out | apply below_alloc | apply pw_below_drewN | apply below_drew1) | exact HB.out))) : w.heap.size ≤ gb163)); clear HB; have HB := n0_; have BK163 := n1_; have GW163 := n2_; have GE163 := n3_; clear n0_ n1_ n2_ n3_; clear hb hbox hg; have hcz5_0 : w4.cell? ⟨gb163, 0, none⟩ = some (.int .i64 a0_0) := (blk_cell BK163.out 0).trans rfl; have hcz5_1 : w4.cell? ⟨gb163, 1, none⟩ = some (.int .i64 a0_1) := (blk_cell BK163.out 1).trans rfl; have hcz5_2 : w4.cell? ⟨gb163, 2, none⟩ = some (.slice A0_2 l0_2.length c0_2) := (blk_cell BK163.out 2).trans rfl; have hcz5_3 : w4.cell? ⟨gb163, 3, none⟩ = some (.string a0_3) := (blk_cell BK163.out 3).trans rfl; have hfz5_0 := blk_frozen BK163.out 0; have hfz5_1 := blk_frozen BK163.out 1; have hfz5_2 := blk_frozen BK163.out 2; have hfz5_3 := blk_frozen BK163.out 3) | ((with_reducible refine gate_callee (f := 162) rfl ?_); refine goesL_ (some 10) rfl rfl Try.func162 (by kernel_rfl) rfl #[.slice A0_2 l0_2.length c0_2] rfl (by (try simp only [List.map_toArray, List.map_cons, List.map_nil]); first | done | rfl | (simp only [List.length_drop, List.length_take]; rfl)) ?_; (with_reducible refine (spec_ConfText.calls k _ _ l0_2 t164 t165 _ ?side1 ?side2 A2.out).mono ?_); (case side1 => repeat (first | exact (Kd.C_below HR0_2.out HB.out) | (with_reducible refine Kd.C_alloc ?_ _) | (with_reducible refine Kd.C_drewN ?_ _) | (with_reducible refine Kd.C_drew ?_))); (case side2 => exact HC0_2.out); rintro e w6 ⟨rfl, hb⟩; refine ⟨_, rfl, ?_⟩; have n0_ := Aside0.mk (blk_below (g := gb163) (o := .cells #[.int .i64 a0_0, .int .i64 a0_1, .slice A0_2 l0_2.length c0_2, .string a0_3] 95 (0, 0)) (by (with_reducible repeat (first | refine blk_drewN ?_ _ | refine blk_drew ?_ | refine blk_alloc ?_ _)); exact BK163.out) hb); have n1_ := Aside0.mk (below_step (by repeat (first | (with_reducible first | exact HB.out | apply below_alloc | apply pw_below_drewN | apply below_drew1 | refine below_set ?_ GE163.out) | exact HB.out)) hb); clear BK163; clear HB; have BK163 := n0_; have HB := n1_; clear n0_ n1_; (try clear hb); (try clear hb2); (try clear hk); (try clear hi)))
  (try simp only [Act.put, List.setIfInBounds_toArray, List.set_cons_zero, List.set_cons_succ])
  go_cut [32] (fun v32 wc => ∃ (kq : Nat) (x32_2 : Bool), v32 = .bool x32_2 ∧ Aside0 (spec_SnapText.j0 kq t164 x32_2 a0_0 a0_1 l0_2 a0_3 = some (r1, r2)) ∧ Aside0 (kq ≤ k) ∧ Aside0 (wc.heap[gb163]? = some (.cells #[.int .i64 a0_0, .int .i64 a0_1, (.slice A0_2 l0_2.length c0_2), .string a0_3] 95 (0, 0))) ∧ Aside0 (Below w.heap.size w wc))
  case first =>
    have H := HC3.out
    clear HC3
    by_cases c7 : t165 = true
    · subst c7
      have H1 : ((spec_l01In.f a0_0 0 1000000).bind fun t166 => (if t166 = true then ((spec_l01In.f a0_1 0 100000).bind fun t167 => (if t167 = true then (spec_SnapText.j0 k t164 (decide ((a0_3.size : Int) > 20000)) a0_0 a0_1 l0_2 a0_3) else (spec_SnapText.j0 k t164 true a0_0 a0_1 l0_2 a0_3))) else (spec_SnapText.j0 k t164 true a0_0 a0_1 l0_2 a0_3))) = some (r1, r2) := by rw [if_pos rfl] at H; exact H
      clear H
      have H := H1
      clear H1
      replace H := Option.bind_eq_some_iff.mp H
      obtain ⟨t166, A80, H⟩ := H
      replace H : (if t166 = true then ((spec_l01In.f a0_1 0 100000).bind fun t167 => (if t167 = true then (spec_SnapText.j0 k t164 (decide ((a0_3.size : Int) > 20000)) a0_0 a0_1 l0_2 a0_3) else (spec_SnapText.j0 k t164 true a0_0 a0_1 l0_2 a0_3))) else (spec_SnapText.j0 k t164 true a0_0 a0_1 l0_2 a0_3)) = some (r1, r2) := H
      have A8 := Aside0.mk A80
      clear A80
      by_cases c9 : t166 = true
      · subst c9
        have H1 : ((spec_l01In.f a0_1 0 100000).bind fun t167 => (if t167 = true then (spec_SnapText.j0 k t164 (decide ((a0_3.size : Int) > 20000)) a0_0 a0_1 l0_2 a0_3) else (spec_SnapText.j0 k t164 true a0_0 a0_1 l0_2 a0_3))) = some (r1, r2) := by rw [if_pos rfl] at H; exact H
        clear H
        have H := H1
        clear H1
        replace H := Option.bind_eq_some_iff.mp H
        obtain ⟨t167, A100, H⟩ := H
        replace H : (if t167 = true then (spec_SnapText.j0 k t164 (decide ((a0_3.size : Int) > 20000)) a0_0 a0_1 l0_2 a0_3) else (spec_SnapText.j0 k t164 true a0_0 a0_1 l0_2 a0_3)) = some (r1, r2) := H
        have A10 := Aside0.mk A100
        clear A100
        by_cases c11 : t167 = true
        · subst c11
          have H1 : (spec_SnapText.j0 k t164 (decide ((a0_3.size : Int) > 20000)) a0_0 a0_1 l0_2 a0_3) = some (r1, r2) := by rw [if_pos rfl] at H; exact H
          clear H
          have H := H1
          clear H1
          have H' := Aside0.mk H
          clear H
          have hcz12_0 : w6.cell? ⟨gb163, 0, none⟩ = some (.int .i64 a0_0) := (blk_cell BK163.out 0).trans rfl
          have hcz12_1 : w6.cell? ⟨gb163, 1, none⟩ = some (.int .i64 a0_1) := (blk_cell BK163.out 1).trans rfl
          have hcz12_2 : w6.cell? ⟨gb163, 2, none⟩ = some (.slice A0_2 l0_2.length c0_2) := (blk_cell BK163.out 2).trans rfl
          have hcz12_3 : w6.cell? ⟨gb163, 3, none⟩ = some (.string a0_3) := (blk_cell BK163.out 3).trans rfl
          have hfz12_0 := blk_frozen BK163.out 0
          have hfz12_1 := blk_frozen BK163.out 1
          have hfz12_2 := blk_frozen BK163.out 2
          have hfz12_3 := blk_frozen BK163.out 3
          go_wp2_with (first | (go_at_call 113; (with_reducible refine (spec_l01In.calls a0_0 0 1000000 true _ A8.out).mono ?_); rintro e w' ⟨rfl, ⟨nd, rfl⟩⟩) | (go_at_call 113; (with_reducible refine (spec_l01In.calls a0_1 0 100000 true _ A10.out).mono ?_); rintro e w' ⟨rfl, ⟨nd, rfl⟩⟩))
          go_meet
          case rel => exact ⟨_, (decide ((a0_3.size : Int) > 20000)), (by first | rfl | (simp; done) | (simp [*]; done)), H', ⟨by first | omega | exact Nat.le_refl _⟩, ⟨by (with_reducible repeat (first | refine blk_drewN ?_ _ | refine blk_drew ?_ | refine blk_alloc ?_ _)); exact BK163.out⟩, ⟨by repeat (first | (with_reducible first | exact HB.out | apply below_alloc | apply pw_below_drewN | apply below_drew1 | refine below_set ?_ GE163.out) | exact HB.out)⟩⟩
        · replace c11 := Bool.eq_false_iff.mpr c11
          subst c11
          have H1 : (spec_SnapText.j0 k t164 true a0_0 a0_1 l0_2 a0_3) = some (r1, r2) := by rw [if_neg (show ¬ (false = true) by decide)] at H; exact H
          clear H
          have H := H1
          clear H1
          have H' := Aside0.mk H
          clear H
          have hcz13_0 : w6.cell? ⟨gb163, 0, none⟩ = some (.int .i64 a0_0) := (blk_cell BK163.out 0).trans rfl
          have hcz13_1 : w6.cell? ⟨gb163, 1, none⟩ = some (.int .i64 a0_1) := (blk_cell BK163.out 1).trans rfl
          have hcz13_2 : w6.cell? ⟨gb163, 2, none⟩ = some (.slice A0_2 l0_2.length c0_2) := (blk_cell BK163.out 2).trans rfl
          have hcz13_3 : w6.cell? ⟨gb163, 3, none⟩ = some (.string a0_3) := (blk_cell BK163.out 3).trans rfl
          have hfz13_0 := blk_frozen BK163.out 0
          have hfz13_1 := blk_frozen BK163.out 1
          have hfz13_2 := blk_frozen BK163.out 2
          have hfz13_3 := blk_frozen BK163.out 3
          go_wp2_with (first | (go_at_call 113; (with_reducible refine (spec_l01In.calls a0_0 0 1000000 true _ A8.out).mono ?_); rintro e w' ⟨rfl, ⟨nd, rfl⟩⟩) | (go_at_call 113; (with_reducible refine (spec_l01In.calls a0_1 0 100000 false _ A10.out).mono ?_); rintro e w' ⟨rfl, ⟨nd, rfl⟩⟩))
          go_meet
          case rel => exact ⟨_, (true), (by first | rfl | (simp; done) | (simp [*]; done)), H', ⟨by first | omega | exact Nat.le_refl _⟩, ⟨by (with_reducible repeat (first | refine blk_drewN ?_ _ | refine blk_drew ?_ | refine blk_alloc ?_ _)); exact BK163.out⟩, ⟨by repeat (first | (with_reducible first | exact HB.out | apply below_alloc | apply pw_below_drewN | apply below_drew1 | refine below_set ?_ GE163.out) | exact HB.out)⟩⟩
      · replace c9 := Bool.eq_false_iff.mpr c9
        subst c9
        have H1 : (spec_SnapText.j0 k t164 true a0_0 a0_1 l0_2 a0_3) = some (r1, r2) := by rw [if_neg (show ¬ (false = true) by decide)] at H; exact H
        clear H
        have H := H1
        clear H1
        have H' := Aside0.mk H
        clear H
        have hcz14_0 : w6.cell? ⟨gb163, 0, none⟩ = some (.int .i64 a0_0) := (blk_cell BK163.out 0).trans rfl
        have hcz14_1 : w6.cell? ⟨gb163, 1, none⟩ = some (.int .i64 a0_1) := (blk_cell BK163.out 1).trans rfl
        have hcz14_2 : w6.cell? ⟨gb163, 2, none⟩ = some (.slice A0_2 l0_2.length c0_2) := (blk_cell BK163.out 2).trans rfl
        have hcz14_3 : w6.cell? ⟨gb163, 3, none⟩ = some (.string a0_3) := (blk_cell BK163.out 3).trans rfl
        have hfz14_0 := blk_frozen BK163.out 0
        have hfz14_1 := blk_frozen BK163.out 1
        have hfz14_2 := blk_frozen BK163.out 2
        have hfz14_3 := blk_frozen BK163.out 3
        go_wp2_with (first | (go_at_call 113; (with_reducible refine (spec_l01In.calls a0_0 0 1000000 false _ A8.out).mono ?_); rintro e w' ⟨rfl, ⟨nd, rfl⟩⟩))
        go_meet
        case rel => exact ⟨_, (true), (by first | rfl | (simp; done) | (simp [*]; done)), H', ⟨by first | omega | exact Nat.le_refl _⟩, ⟨by (with_reducible repeat (first | refine blk_drewN ?_ _ | refine blk_drew ?_ | refine blk_alloc ?_ _)); exact BK163.out⟩, ⟨by repeat (first | (with_reducible first | exact HB.out | apply below_alloc | apply pw_below_drewN | apply below_drew1 | refine below_set ?_ GE163.out) | exact HB.out)⟩⟩
    · replace c7 := Bool.eq_false_iff.mpr c7
      subst c7
      have H1 : (spec_SnapText.j0 k t164 true a0_0 a0_1 l0_2 a0_3) = some (r1, r2) := by rw [if_neg (show ¬ (false = true) by decide)] at H; exact H
      clear H
      have H := H1
      clear H1
      have H' := Aside0.mk H
      clear H
      go_wp2
      go_meet
      case rel => exact ⟨_, (true), (by first | rfl | (simp; done) | (simp [*]; done)), H', ⟨by first | omega | exact Nat.le_refl _⟩, ⟨by (with_reducible repeat (first | refine blk_drewN ?_ _ | refine blk_drew ?_ | refine blk_alloc ?_ _)); exact BK163.out⟩, ⟨by repeat (first | (with_reducible first | exact HB.out | apply below_alloc | apply pw_below_drewN | apply below_drew1 | refine below_set ?_ GE163.out) | exact HB.out)⟩⟩
  case rest =>
    clear HC3
    try clear c1
    try clear p2
    try clear c7
    try clear c9
    try clear c11
    try clear c12
    try clear hcz12_0
    try clear hcz12_1
    try clear hcz12_2
    try clear hcz12_3
    try clear hcz13_0
    try clear hcz13_1
    try clear hcz13_2
    try clear hcz13_3
    try clear hcz14_0
    try clear hcz14_1
    try clear hcz14_2
    try clear hcz14_3
    try clear hcz5_0
    try clear hcz5_1
    try clear hcz5_2
    try clear hcz5_3
    try clear hfz12_0
    try clear hfz12_1
    try clear hfz12_2
    try clear hfz12_3
    try clear hfz13_0
    try clear hfz13_1
    try clear hfz13_2
    try clear hfz13_3
    try clear hfz14_0
    try clear hfz14_1
    try clear hfz14_2
    try clear hfz14_3
    try clear hfz5_0
    try clear hfz5_1
    try clear hfz5_2
    try clear hfz5_3
    obtain ⟨kq, x32_2, rfl, HA, HJ2, BK163, HB⟩ := hcut
    cases kq with
    | zero => exact absurd HA.out (by simp [spec_SnapText.j0])
    | succ kj2 =>
      have H := HA.out
      clear HA
      simp only [spec_SnapText.j0] at H
      by_cases c15 : x32_2 = true
      · subst c15
        have H1 : (some ((⟨#[]⟩ : ByteArray), false)) = some (r1, r2) := by rw [if_pos rfl] at H; exact H
        clear H
        have H := H1
        clear H1
        simp only [Option.some.injEq, Prod.mk.injEq] at H
        obtain ⟨rfl, rfl⟩ := H
        go_wp2
        go_ret2
        exact ⟨by first | rfl | (simp [errW_none, errW_some] <;> rfl) | (simp [*, errW_none, errW_some] <;> rfl), by repeat (first | (with_reducible first | exact HB.out | apply below_alloc | apply pw_below_drewN | apply below_drew1 | refine below_set ?_ GE163.out) | exact HB.out)⟩
      · replace c15 := Bool.eq_false_iff.mpr c15
        subst c15
        have H1 : ((spec_l01Var.f kj2 a0_0).bind fun t168 => ((spec_l01Var.f kj2 a0_1).bind fun t169 => (if t168.size + t169.size ≤ 9223372036854775807 then ((spec_l05Short.f kj2 t164).bind fun t170 => (if (t168 ++ t169).size + t170.size ≤ 9223372036854775807 then ((spec_l05Short.f kj2 a0_3).bind fun t171 => (if ((t168 ++ t169) ++ t170).size + t171.size ≤ 9223372036854775807 then (if (wrap64 (((((t168 ++ t169) ++ t170) ++ t171).size : Int) + 4)) > 20000 then (some ((⟨#[]⟩ : ByteArray), false)) else ((spec_Sealed.f kj2 (((t168 ++ t169) ++ t170) ++ t171)).bind fun bt172 => (some (bt172.1, bt172.2)))) else (none))) else (none))) else (none)))) = some (r1, r2) := by rw [if_neg (show ¬ (false = true) by decide)] at H; exact H
        clear H
        have H := H1
        clear H1
        replace H := Option.bind_eq_some_iff.mp H
        obtain ⟨t168, A160, H⟩ := H
        replace H : ((spec_l01Var.f kj2 a0_1).bind fun t169 => (if t168.size + t169.size ≤ 9223372036854775807 then ((spec_l05Short.f kj2 t164).bind fun t170 => (if (t168 ++ t169).size + t170.size ≤ 9223372036854775807 then ((spec_l05Short.f kj2 a0_3).bind fun t171 => (if ((t168 ++ t169) ++ t170).size + t171.size ≤ 9223372036854775807 then (if (wrap64 (((((t168 ++ t169) ++ t170) ++ t171).size : Int) + 4)) > 20000 then (some ((⟨#[]⟩ : ByteArray), false)) else ((spec_Sealed.f kj2 (((t168 ++ t169) ++ t170) ++ t171)).bind fun bt172 => (some (bt172.1, bt172.2)))) else (none))) else (none))) else (none))) = some (r1, r2) := H
        have A16 := Aside0.mk A160
        clear A160
        replace H := Option.bind_eq_some_iff.mp H
        obtain ⟨t169, A170, H⟩ := H
        replace H : (if t168.size + t169.size ≤ 9223372036854775807 then ((spec_l05Short.f kj2 t164).bind fun t170 => (if (t168 ++ t169).size + t170.size ≤ 9223372036854775807 then ((spec_l05Short.f kj2 a0_3).bind fun t171 => (if ((t168 ++ t169) ++ t170).size + t171.size ≤ 9223372036854775807 then (if (wrap64 (((((t168 ++ t169) ++ t170) ++ t171).size : Int) + 4)) > 20000 then (some ((⟨#[]⟩ : ByteArray), false)) else ((spec_Sealed.f kj2 (((t168 ++ t169) ++ t170) ++ t171)).bind fun bt172 => (some (bt172.1, bt172.2)))) else (none))) else (none))) else (none)) = some (r1, r2) := H
        have A17 := Aside0.mk A170
        clear A170
        by_cases c18 : t168.size + t169.size ≤ 9223372036854775807
        · rw [if_pos c18] at H
          have c18b0 := eq_true c18
          have c18b1 : decide (t168.size + t169.size ≤ 9223372036854775807) = true := decide_eq_true c18
          try have c18b2 : (9223372036854775807 < t168.size + t169.size) = False := eq_false (Nat.not_lt.2 c18)
          replace H := Option.bind_eq_some_iff.mp H
          obtain ⟨t170, A190, H⟩ := H
          replace H : (if (t168 ++ t169).size + t170.size ≤ 9223372036854775807 then ((spec_l05Short.f kj2 a0_3).bind fun t171 => (if ((t168 ++ t169) ++ t170).size + t171.size ≤ 9223372036854775807 then (if (wrap64 (((((t168 ++ t169) ++ t170) ++ t171).size : Int) + 4)) > 20000 then (some ((⟨#[]⟩ : ByteArray), false)) else ((spec_Sealed.f kj2 (((t168 ++ t169) ++ t170) ++ t171)).bind fun bt172 => (some (bt172.1, bt172.2)))) else (none))) else (none)) = some (r1, r2) := H
          have A19 := Aside0.mk A190
          clear A190
          by_cases c20 : (t168 ++ t169).size + t170.size ≤ 9223372036854775807
          · rw [if_pos c20] at H
            have c20b0 := eq_true c20
            have c20b1 : decide ((t168 ++ t169).size + t170.size ≤ 9223372036854775807) = true := decide_eq_true c20
            try have c20b3 : (9223372036854775807 < t168.size + t169.size + t170.size) = False := eq_false (by have h_ := c20; rw [Nat.not_lt]; simp only [ByteArray.size_append] at h_; first | exact h_ | (simp at h_; omega) | omega)
            try have c20b2 : (9223372036854775807 < (t168 ++ t169).size + t170.size) = False := eq_false (Nat.not_lt.2 c20)
            replace H := Option.bind_eq_some_iff.mp H
            obtain ⟨t171, A210, H⟩ := H
            replace H : (if ((t168 ++ t169) ++ t170).size + t171.size ≤ 9223372036854775807 then (if (wrap64 (((((t168 ++ t169) ++ t170) ++ t171).size : Int) + 4)) > 20000 then (some ((⟨#[]⟩ : ByteArray), false)) else ((spec_Sealed.f kj2 (((t168 ++ t169) ++ t170) ++ t171)).bind fun bt172 => (some (bt172.1, bt172.2)))) else (none)) = some (r1, r2) := H
            have A21 := Aside0.mk A210
            clear A210
            by_cases c22 : ((t168 ++ t169) ++ t170).size + t171.size ≤ 9223372036854775807
            · rw [if_pos c22] at H
              have c22b0 := eq_true c22
              have c22b1 : decide (((t168 ++ t169) ++ t170).size + t171.size ≤ 9223372036854775807) = true := decide_eq_true c22
              try have c22b3 : (9223372036854775807 < t168.size + t169.size + t170.size + t171.size) = False := eq_false (by have h_ := c22; rw [Nat.not_lt]; simp only [ByteArray.size_append] at h_; first | exact h_ | (simp at h_; omega) | omega)
              try have c22b2 : (9223372036854775807 < ((t168 ++ t169) ++ t170).size + t171.size) = False := eq_false (Nat.not_lt.2 c22)
              by_cases c23 : (wrap64 (((((t168 ++ t169) ++ t170) ++ t171).size : Int) + 4)) > 20000
              · rw [if_pos c23] at H
                have c23b0 : decide (20000 < (wrap64 (((((t168 ++ t169) ++ t170) ++ t171).size : Int) + 4))) = true := decide_eq_true c23
                have c23b1 : decide (20000 < wrap64 ((t168.size : Int) + (t169.size : Int) + (t170.size : Int) + (t171.size : Int) + 4)) = true := by have h_ := c23b0; simp only [ByteArray.size_append, Int.natCast_add] at h_; exact h_
                clear c23
                simp only [Option.some.injEq, Prod.mk.injEq] at H
                obtain ⟨rfl, rfl⟩ := H
                try go_wp2
                have n0_ := Aside0.mk (blk_drew BK163.out)
                have n1_ := Aside0.mk (below_drew1 HB.out)
                clear BK163
                clear HB
                have BK163 := n0_
                have HB := n1_
                clear n0_ n1_
                refine start_ (n := 15) (S := fun w' => w'.cell? ⟨gb163, 0, none⟩ = some (.int .i64 a0_0) ∧ w'.cell? ⟨gb163, 1, none⟩ = some (.int .i64 a0_1) ∧ w'.cell? ⟨gb163, 2, none⟩ = some (.slice A0_2 l0_2.length c0_2) ∧ w'.cell? ⟨gb163, 3, none⟩ = some (.string a0_3)) (ds := []) #[false, false, false, false, false, false, false, false, false, false, false, false, false, false, false] (by kernel_rfl) rfl rfl ⟨(blk_cell BK163.out 0).trans rfl, (blk_cell BK163.out 1).trans rfl, (blk_cell BK163.out 2).trans rfl, (blk_cell BK163.out 3).trans rfl⟩ (fun hHeld => ?_); refine with_tabW spec_SnapText.tab4 spec_SnapText.bits4 (fun HT_ HW_ => ?_)
                generalize wc.drew = w24 at BK163 HB hHeld ⊢
                refine pure_ (i := 0) (N := some 33) (v := ?_) (a' := ?_) #[true, false, false, false, false, false, false, false, false, false, false, false, false, false, false] rfl rfl (any_of HT_.out (by kernel_rfl)) (fun _ _ _ h => h) (Or.inl ⟨by rfl, ?_⟩) ?_ ?_
                rotate_left
                · intro w'
                  go_simp
                  with_reducible rfl
                rotate_left
                · simp only [Act.put, List.setIfInBounds_toArray, List.set_cons_zero, List.set_cons_succ, i64_w, i32_w]
                  rfl
                refine pure_ (i := 3) (N := some 36) (v := ?_) (a' := ?_) #[true, false, false, true, false, false, false, false, false, false, false, false, false, false, false] rfl rfl (any_of HT_.out (by kernel_rfl)) (fun _ _ _ h => h) (Or.inl ⟨by rfl, ?_⟩) ?_ ?_
                rotate_left
                · intro w'
                  go_simp
                  with_reducible rfl
                rotate_left
                · simp only [Act.put, List.setIfInBounds_toArray, List.set_cons_zero, List.set_cons_succ, i64_w, i32_w]
                  rfl
                refine pure_ (i := 7) (N := some 40) (v := ?_) (a' := ?_) #[true, false, false, true, false, false, false, true, false, false, false, false, false, false, false] rfl rfl (any_of HT_.out (by kernel_rfl)) (fun _ _ _ h => h) (Or.inl ⟨by rfl, ?_⟩) ?_ ?_
                rotate_left
                · intro w'
                  go_simp
                  with_reducible rfl
                rotate_left
                · simp only [Act.put, List.setIfInBounds_toArray, List.set_cons_zero, List.set_cons_succ, i64_w, i32_w]
                  rfl
                refine pure_ (i := 10) (N := some 43) (v := ?_) (a' := ?_) #[true, false, false, true, false, false, false, true, false, false, true, false, false, false, false] rfl rfl (any_of HT_.out (by kernel_rfl)) (fun _ _ _ h => h) (Or.inl ⟨by rfl, ?_⟩) ?_ ?_
                rotate_left
                · intro w'
                  go_simp
                  with_reducible rfl
                rotate_left
                · simp only [Act.put, List.setIfInBounds_toArray, List.set_cons_zero, List.set_cons_succ, i64_w, i32_w]
                  rfl
                refine take_ (i := 1) (N := some 34) (v := ?_) (a' := ?_) #[true, true, false, true, false, false, false, true, false, false, true, false, false, false, false] rfl rfl (take_ofW HT_.out HW_.out (by kernel_rfl)) (fun _ _ _ h => h) (Or.inl ⟨by rfl, ?_⟩) hHeld ?_ ?_
                rotate_left
                · rintro w' ⟨s0, s1, s2, s3⟩
                  go_simp
                  with_reducible rfl
                rotate_left
                · simp only [Act.put, List.setIfInBounds_toArray, List.set_cons_zero, List.set_cons_succ, i64_w, i32_w]
                  rfl
                refine take_ (i := 4) (N := some 37) (v := ?_) (a' := ?_) #[true, true, false, true, true, false, false, true, false, false, true, false, false, false, false] rfl rfl (take_ofW HT_.out HW_.out (by kernel_rfl)) (fun _ _ _ h => h) (Or.inl ⟨by rfl, ?_⟩) hHeld ?_ ?_
                rotate_left
                · rintro w' ⟨s0, s1, s2, s3⟩
                  go_simp
                  with_reducible rfl
                rotate_left
                · simp only [Act.put, List.setIfInBounds_toArray, List.set_cons_zero, List.set_cons_succ, i64_w, i32_w]
                  rfl
                refine take_ (i := 11) (N := some 44) (v := ?_) (a' := ?_) #[true, true, false, true, true, false, false, true, false, false, true, true, false, false, false] rfl rfl (take_ofW HT_.out HW_.out (by kernel_rfl)) (fun _ _ _ h => h) (Or.inl ⟨by rfl, ?_⟩) hHeld ?_ ?_
                rotate_left
                · rintro w' ⟨s0, s1, s2, s3⟩
                  go_simp
                  with_reducible rfl
                rotate_left
                · simp only [Act.put, List.setIfInBounds_toArray, List.set_cons_zero, List.set_cons_succ, i64_w, i32_w]
                  rfl
                refine one_ (i := 2) (N := some 35) #[true, true, true, true, true, false, false, true, false, false, true, true, false, false, false] rfl rfl (one_of HT_.out (by kernel_rfl)) (by decide) (fun K hK => ?_)
                refine goes_ Try.func135 (by kernel_rfl) rfl #[.int .i64 a0_0] (by rfl) rfl rfl (by (try simp only [List.map_toArray, List.map_cons, List.map_nil]); first | done | rfl | (simp only [List.length_drop, List.length_take]; rfl)) ?_
                with_reducible refine (spec_l01Var.calls kj2 a0_0 t168 _ A16.out).mono ?_
                rintro e w25 ⟨rfl, hb⟩
                refine ⟨_, rfl, ?_⟩
                have n0_ := Aside0.mk (blk_below (g := gb163) (o := .cells #[.int .i64 a0_0, .int .i64 a0_1, .slice A0_2 l0_2.length c0_2, .string a0_3] 95 (0, 0)) (by (with_reducible repeat (first | refine blk_drewN ?_ _ | refine blk_drew ?_ | refine blk_alloc ?_ _)); exact BK163.out) hb)
                have n1_ := Aside0.mk (below_step (by repeat (first | (with_reducible first | exact HB.out | apply below_alloc | apply pw_below_drewN | apply below_drew1 | refine below_set ?_ GE163.out) | exact HB.out)) hb)
                clear BK163
                clear HB
                have BK163 := n0_
                have HB := n1_
                clear n0_ n1_
                (try clear hb)
                (try clear hb2)
                (try clear hk)
                (try clear hi)
                refine hK.out _ _ ⟨(blk_cell BK163.out 0).trans rfl, (blk_cell BK163.out 1).trans rfl, (blk_cell BK163.out 2).trans rfl, (blk_cell BK163.out 3).trans rfl⟩ (fun hHeld => ?_)
                clear hK K
                refine norm_ (a' := ?_) ?_ ?_
                rotate_left
                · show Act.put _ (some 35) _ = _
                  simp only [Act.put, List.setIfInBounds_toArray, List.set_cons_zero, List.set_cons_succ, i64_w, i32_w]
                  rfl
                refine one_ (i := 5) (N := some 38) #[true, true, true, true, true, true, false, true, false, false, true, true, false, false, false] rfl rfl (one_of HT_.out (by kernel_rfl)) (by decide) (fun K hK => ?_)
                refine goes_ Try.func135 (by kernel_rfl) rfl #[.int .i64 a0_1] (by rfl) rfl rfl (by (try simp only [List.map_toArray, List.map_cons, List.map_nil]); first | done | rfl | (simp only [List.length_drop, List.length_take]; rfl)) ?_
                with_reducible refine (spec_l01Var.calls kj2 a0_1 t169 _ A17.out).mono ?_
                rintro e w26 ⟨rfl, hb⟩
                refine ⟨_, rfl, ?_⟩
                have n0_ := Aside0.mk (blk_below (g := gb163) (o := .cells #[.int .i64 a0_0, .int .i64 a0_1, .slice A0_2 l0_2.length c0_2, .string a0_3] 95 (0, 0)) (by (with_reducible repeat (first | refine blk_drewN ?_ _ | refine blk_drew ?_ | refine blk_alloc ?_ _)); exact BK163.out) hb)
                have n1_ := Aside0.mk (below_step (by repeat (first | (with_reducible first | exact HB.out | apply below_alloc | apply pw_below_drewN | apply below_drew1 | refine below_set ?_ GE163.out) | exact HB.out)) hb)
                clear BK163
                clear HB
                have BK163 := n0_
                have HB := n1_
                clear n0_ n1_
                (try clear hb)
                (try clear hb2)
                (try clear hk)
                (try clear hi)
                refine hK.out _ _ ⟨(blk_cell BK163.out 0).trans rfl, (blk_cell BK163.out 1).trans rfl, (blk_cell BK163.out 2).trans rfl, (blk_cell BK163.out 3).trans rfl⟩ (fun hHeld => ?_)
                clear hK K
                refine norm_ (a' := ?_) ?_ ?_
                rotate_left
                · show Act.put _ (some 38) _ = _
                  simp only [Act.put, List.setIfInBounds_toArray, List.set_cons_zero, List.set_cons_succ, i64_w, i32_w]
                  rfl
                refine pure_ (i := 6) (N := some 39) (v := ?_) (a' := ?_) #[true, true, true, true, true, true, true, true, false, false, true, true, false, false, false] rfl rfl (any_of HT_.out (by kernel_rfl)) (fun _ _ _ h => h) (Or.inl ⟨by rfl, ?_⟩) ?_ ?_
                rotate_left
                · intro w'
                  go_simp
                  with_reducible rfl
                rotate_left
                · simp only [Act.put, List.setIfInBounds_toArray, List.set_cons_zero, List.set_cons_succ, i64_w, i32_w]
                  rfl
                refine one_ (i := 8) (N := some 41) #[true, true, true, true, true, true, true, true, true, false, true, true, false, false, false] rfl rfl (one_of HT_.out (by kernel_rfl)) (by decide) (fun K hK => ?_)
                refine goes_ Try.func163 (by kernel_rfl) rfl #[.string t164] (by rfl) rfl rfl (by (try simp only [List.map_toArray, List.map_cons, List.map_nil]); first | done | rfl | (simp only [List.length_drop, List.length_take]; rfl)) ?_
                with_reducible refine (spec_l05Short.calls kj2 t164 t170 _ A19.out).mono ?_
                rintro e w27 ⟨rfl, hb⟩
                refine ⟨_, rfl, ?_⟩
                have n0_ := Aside0.mk (blk_below (g := gb163) (o := .cells #[.int .i64 a0_0, .int .i64 a0_1, .slice A0_2 l0_2.length c0_2, .string a0_3] 95 (0, 0)) (by (with_reducible repeat (first | refine blk_drewN ?_ _ | refine blk_drew ?_ | refine blk_alloc ?_ _)); exact BK163.out) hb)
                have n1_ := Aside0.mk (below_step (by repeat (first | (with_reducible first | exact HB.out | apply below_alloc | apply pw_below_drewN | apply below_drew1 | refine below_set ?_ GE163.out) | exact HB.out)) hb)
                clear BK163
                clear HB
                have BK163 := n0_
                have HB := n1_
                clear n0_ n1_
                (try clear hb)
                (try clear hb2)
                (try clear hk)
                (try clear hi)
                refine hK.out _ _ ⟨(blk_cell BK163.out 0).trans rfl, (blk_cell BK163.out 1).trans rfl, (blk_cell BK163.out 2).trans rfl, (blk_cell BK163.out 3).trans rfl⟩ (fun hHeld => ?_)
                clear hK K
                refine norm_ (a' := ?_) ?_ ?_
                rotate_left
                · show Act.put _ (some 41) _ = _
                  simp only [Act.put, List.setIfInBounds_toArray, List.set_cons_zero, List.set_cons_succ, i64_w, i32_w]
                  rfl
                refine pure_ (i := 9) (N := some 42) (v := ?_) (a' := ?_) #[true, true, true, true, true, true, true, true, true, true, true, true, false, false, false] rfl rfl (any_of HT_.out (by kernel_rfl)) (fun _ _ _ h => h) (Or.inl ⟨by rfl, ?_⟩) ?_ ?_
                rotate_left
                · intro w'
                  go_simp
                  with_reducible rfl
                rotate_left
                · simp only [Act.put, List.setIfInBounds_toArray, List.set_cons_zero, List.set_cons_succ, i64_w, i32_w]
                  rfl
                refine one_ (i := 12) (N := some 45) #[true, true, true, true, true, true, true, true, true, true, true, true, true, false, false] rfl rfl (one_of HT_.out (by kernel_rfl)) (by decide) (fun K hK => ?_)
                refine goes_ Try.func163 (by kernel_rfl) rfl #[.string a0_3] (by rfl) rfl rfl (by (try simp only [List.map_toArray, List.map_cons, List.map_nil]); first | done | rfl | (simp only [List.length_drop, List.length_take]; rfl)) ?_
                with_reducible refine (spec_l05Short.calls kj2 a0_3 t171 _ A21.out).mono ?_
                rintro e w28 ⟨rfl, hb⟩
                refine ⟨_, rfl, ?_⟩
                have n0_ := Aside0.mk (blk_below (g := gb163) (o := .cells #[.int .i64 a0_0, .int .i64 a0_1, .slice A0_2 l0_2.length c0_2, .string a0_3] 95 (0, 0)) (by (with_reducible repeat (first | refine blk_drewN ?_ _ | refine blk_drew ?_ | refine blk_alloc ?_ _)); exact BK163.out) hb)
                have n1_ := Aside0.mk (below_step (by repeat (first | (with_reducible first | exact HB.out | apply below_alloc | apply pw_below_drewN | apply below_drew1 | refine below_set ?_ GE163.out) | exact HB.out)) hb)
                clear BK163
                clear HB
                have BK163 := n0_
                have HB := n1_
                clear n0_ n1_
                (try clear hb)
                (try clear hb2)
                (try clear hk)
                (try clear hi)
                refine hK.out _ _ ⟨(blk_cell BK163.out 0).trans rfl, (blk_cell BK163.out 1).trans rfl, (blk_cell BK163.out 2).trans rfl, (blk_cell BK163.out 3).trans rfl⟩ (fun hHeld => ?_)
                clear hK K
                refine norm_ (a' := ?_) ?_ ?_
                rotate_left
                · show Act.put _ (some 45) _ = _
                  simp only [Act.put, List.setIfInBounds_toArray, List.set_cons_zero, List.set_cons_succ, i64_w, i32_w]
                  rfl
                refine pure_ (i := 13) (N := some 46) (v := ?_) (a' := ?_) #[true, true, true, true, true, true, true, true, true, true, true, true, true, true, false] rfl rfl (any_of HT_.out (by kernel_rfl)) (fun _ _ _ h => h) (Or.inl ⟨by rfl, ?_⟩) ?_ ?_
                rotate_left
                · intro w'
                  go_simp
                  with_reducible rfl
                rotate_left
                · simp only [Act.put, List.setIfInBounds_toArray, List.set_cons_zero, List.set_cons_succ, i64_w, i32_w]
                  rfl
                refine pure_ (i := 14) (N := some 6) (v := ?_) (a' := ?_) #[true, true, true, true, true, true, true, true, true, true, true, true, true, true, true] rfl rfl (any_of HT_.out (by kernel_rfl)) (fun _ _ _ h => h) (Or.inl ⟨by rfl, ?_⟩) ?_ ?_
                rotate_left
                · intro w'
                  go_simp
                  with_reducible rfl
                rotate_left
                · simp only [Act.put, List.setIfInBounds_toArray, List.set_cons_zero, List.set_cons_succ, i64_w, i32_w]
                  rfl
                refine done_ (done_of HT_.out (by kernel_rfl)) ?_
                try go_wp2
                go_ret2
                exact ⟨by first | rfl | (simp [errW_none, errW_some] <;> rfl) | (simp [*, errW_none, errW_some] <;> rfl), by repeat (first | (with_reducible first | exact HB.out | apply below_alloc | apply pw_below_drewN | apply below_drew1 | refine below_set ?_ GE163.out) | exact HB.out)⟩
              · rw [if_neg c23] at H
                have c23b0 : decide (20000 < (wrap64 (((((t168 ++ t169) ++ t170) ++ t171).size : Int) + 4))) = false := decide_eq_false c23
                have c23b1 : decide (20000 < wrap64 ((t168.size : Int) + (t169.size : Int) + (t170.size : Int) + (t171.size : Int) + 4)) = false := by have h_ := c23b0; simp only [ByteArray.size_append, Int.natCast_add] at h_; exact h_
                clear c23
                replace H := Option.bind_eq_some_iff.mp H
                obtain ⟨⟨t172, t173⟩, A290, H⟩ := H
                replace H : (some (t172, t173)) = some (r1, r2) := H
                have A29 := Aside0.mk A290
                clear A290
                simp only [Option.some.injEq, Prod.mk.injEq] at H
                obtain ⟨rfl, rfl⟩ := H
                try go_wp2
                have n0_ := Aside0.mk (blk_drew BK163.out)
                have n1_ := Aside0.mk (below_drew1 HB.out)
                clear BK163
                clear HB
                have BK163 := n0_
                have HB := n1_
                clear n0_ n1_
                refine start_ (n := 15) (S := fun w' => w'.cell? ⟨gb163, 0, none⟩ = some (.int .i64 a0_0) ∧ w'.cell? ⟨gb163, 1, none⟩ = some (.int .i64 a0_1) ∧ w'.cell? ⟨gb163, 2, none⟩ = some (.slice A0_2 l0_2.length c0_2) ∧ w'.cell? ⟨gb163, 3, none⟩ = some (.string a0_3)) (ds := []) #[false, false, false, false, false, false, false, false, false, false, false, false, false, false, false] (by kernel_rfl) rfl rfl ⟨(blk_cell BK163.out 0).trans rfl, (blk_cell BK163.out 1).trans rfl, (blk_cell BK163.out 2).trans rfl, (blk_cell BK163.out 3).trans rfl⟩ (fun hHeld => ?_); refine with_tabW spec_SnapText.tab4 spec_SnapText.bits4 (fun HT_ HW_ => ?_)
                generalize wc.drew = w30 at BK163 HB hHeld ⊢
                refine pure_ (i := 0) (N := some 33) (v := ?_) (a' := ?_) #[true, false, false, false, false, false, false, false, false, false, false, false, false, false, false] rfl rfl (any_of HT_.out (by kernel_rfl)) (fun _ _ _ h => h) (Or.inl ⟨by rfl, ?_⟩) ?_ ?_
                rotate_left
                · intro w'
                  go_simp
                  with_reducible rfl
                rotate_left
                · simp only [Act.put, List.setIfInBounds_toArray, List.set_cons_zero, List.set_cons_succ, i64_w, i32_w]
                  rfl
                refine pure_ (i := 3) (N := some 36) (v := ?_) (a' := ?_) #[true, false, false, true, false, false, false, false, false, false, false, false, false, false, false] rfl rfl (any_of HT_.out (by kernel_rfl)) (fun _ _ _ h => h) (Or.inl ⟨by rfl, ?_⟩) ?_ ?_
                rotate_left
                · intro w'
                  go_simp
                  with_reducible rfl
                rotate_left
                · simp only [Act.put, List.setIfInBounds_toArray, List.set_cons_zero, List.set_cons_succ, i64_w, i32_w]
                  rfl
                refine pure_ (i := 7) (N := some 40) (v := ?_) (a' := ?_) #[true, false, false, true, false, false, false, true, false, false, false, false, false, false, false] rfl rfl (any_of HT_.out (by kernel_rfl)) (fun _ _ _ h => h) (Or.inl ⟨by rfl, ?_⟩) ?_ ?_
                rotate_left
                · intro w'
                  go_simp
                  with_reducible rfl
                rotate_left
                · simp only [Act.put, List.setIfInBounds_toArray, List.set_cons_zero, List.set_cons_succ, i64_w, i32_w]
                  rfl
                refine pure_ (i := 10) (N := some 43) (v := ?_) (a' := ?_) #[true, false, false, true, false, false, false, true, false, false, true, false, false, false, false] rfl rfl (any_of HT_.out (by kernel_rfl)) (fun _ _ _ h => h) (Or.inl ⟨by rfl, ?_⟩) ?_ ?_
                rotate_left
                · intro w'
                  go_simp
                  with_reducible rfl
                rotate_left
                · simp only [Act.put, List.setIfInBounds_toArray, List.set_cons_zero, List.set_cons_succ, i64_w, i32_w]
                  rfl
                refine take_ (i := 1) (N := some 34) (v := ?_) (a' := ?_) #[true, true, false, true, false, false, false, true, false, false, true, false, false, false, false] rfl rfl (take_ofW HT_.out HW_.out (by kernel_rfl)) (fun _ _ _ h => h) (Or.inl ⟨by rfl, ?_⟩) hHeld ?_ ?_
                rotate_left
                · rintro w' ⟨s0, s1, s2, s3⟩
                  go_simp
                  with_reducible rfl
                rotate_left
                · simp only [Act.put, List.setIfInBounds_toArray, List.set_cons_zero, List.set_cons_succ, i64_w, i32_w]
                  rfl
                refine take_ (i := 4) (N := some 37) (v := ?_) (a' := ?_) #[true, true, false, true, true, false, false, true, false, false, true, false, false, false, false] rfl rfl (take_ofW HT_.out HW_.out (by kernel_rfl)) (fun _ _ _ h => h) (Or.inl ⟨by rfl, ?_⟩) hHeld ?_ ?_
                rotate_left
                · rintro w' ⟨s0, s1, s2, s3⟩
                  go_simp
                  with_reducible rfl
                rotate_left
                · simp only [Act.put, List.setIfInBounds_toArray, List.set_cons_zero, List.set_cons_succ, i64_w, i32_w]
                  rfl
                refine take_ (i := 11) (N := some 44) (v := ?_) (a' := ?_) #[true, true, false, true, true, false, false, true, false, false, true, true, false, false, false] rfl rfl (take_ofW HT_.out HW_.out (by kernel_rfl)) (fun _ _ _ h => h) (Or.inl ⟨by rfl, ?_⟩) hHeld ?_ ?_
                rotate_left
                · rintro w' ⟨s0, s1, s2, s3⟩
                  go_simp
                  with_reducible rfl
                rotate_left
                · simp only [Act.put, List.setIfInBounds_toArray, List.set_cons_zero, List.set_cons_succ, i64_w, i32_w]
                  rfl
                refine one_ (i := 2) (N := some 35) #[true, true, true, true, true, false, false, true, false, false, true, true, false, false, false] rfl rfl (one_of HT_.out (by kernel_rfl)) (by decide) (fun K hK => ?_)
                refine goes_ Try.func135 (by kernel_rfl) rfl #[.int .i64 a0_0] (by rfl) rfl rfl (by (try simp only [List.map_toArray, List.map_cons, List.map_nil]); first | done | rfl | (simp only [List.length_drop, List.length_take]; rfl)) ?_
                with_reducible refine (spec_l01Var.calls kj2 a0_0 t168 _ A16.out).mono ?_
                rintro e w31 ⟨rfl, hb⟩
                refine ⟨_, rfl, ?_⟩
                have n0_ := Aside0.mk (blk_below (g := gb163) (o := .cells #[.int .i64 a0_0, .int .i64 a0_1, .slice A0_2 l0_2.length c0_2, .string a0_3] 95 (0, 0)) (by (with_reducible repeat (first | refine blk_drewN ?_ _ | refine blk_drew ?_ | refine blk_alloc ?_ _)); exact BK163.out) hb)
                have n1_ := Aside0.mk (below_step (by repeat (first | (with_reducible first | exact HB.out | apply below_alloc | apply pw_below_drewN | apply below_drew1 | refine below_set ?_ GE163.out) | exact HB.out)) hb)
                clear BK163
                clear HB
                have BK163 := n0_
                have HB := n1_
                clear n0_ n1_
                (try clear hb)
                (try clear hb2)
                (try clear hk)
                (try clear hi)
                refine hK.out _ _ ⟨(blk_cell BK163.out 0).trans rfl, (blk_cell BK163.out 1).trans rfl, (blk_cell BK163.out 2).trans rfl, (blk_cell BK163.out 3).trans rfl⟩ (fun hHeld => ?_)
                clear hK K
                refine norm_ (a' := ?_) ?_ ?_
                rotate_left
                · show Act.put _ (some 35) _ = _
                  simp only [Act.put, List.setIfInBounds_toArray, List.set_cons_zero, List.set_cons_succ, i64_w, i32_w]
                  rfl
                refine one_ (i := 5) (N := some 38) #[true, true, true, true, true, true, false, true, false, false, true, true, false, false, false] rfl rfl (one_of HT_.out (by kernel_rfl)) (by decide) (fun K hK => ?_)
                refine goes_ Try.func135 (by kernel_rfl) rfl #[.int .i64 a0_1] (by rfl) rfl rfl (by (try simp only [List.map_toArray, List.map_cons, List.map_nil]); first | done | rfl | (simp only [List.length_drop, List.length_take]; rfl)) ?_
                with_reducible refine (spec_l01Var.calls kj2 a0_1 t169 _ A17.out).mono ?_
                rintro e w32 ⟨rfl, hb⟩
                refine ⟨_, rfl, ?_⟩
                have n0_ := Aside0.mk (blk_below (g := gb163) (o := .cells #[.int .i64 a0_0, .int .i64 a0_1, .slice A0_2 l0_2.length c0_2, .string a0_3] 95 (0, 0)) (by (with_reducible repeat (first | refine blk_drewN ?_ _ | refine blk_drew ?_ | refine blk_alloc ?_ _)); exact BK163.out) hb)
                have n1_ := Aside0.mk (below_step (by repeat (first | (with_reducible first | exact HB.out | apply below_alloc | apply pw_below_drewN | apply below_drew1 | refine below_set ?_ GE163.out) | exact HB.out)) hb)
                clear BK163
                clear HB
                have BK163 := n0_
                have HB := n1_
                clear n0_ n1_
                (try clear hb)
                (try clear hb2)
                (try clear hk)
                (try clear hi)
                refine hK.out _ _ ⟨(blk_cell BK163.out 0).trans rfl, (blk_cell BK163.out 1).trans rfl, (blk_cell BK163.out 2).trans rfl, (blk_cell BK163.out 3).trans rfl⟩ (fun hHeld => ?_)
                clear hK K
                refine norm_ (a' := ?_) ?_ ?_
                rotate_left
                · show Act.put _ (some 38) _ = _
                  simp only [Act.put, List.setIfInBounds_toArray, List.set_cons_zero, List.set_cons_succ, i64_w, i32_w]
                  rfl
                refine pure_ (i := 6) (N := some 39) (v := ?_) (a' := ?_) #[true, true, true, true, true, true, true, true, false, false, true, true, false, false, false] rfl rfl (any_of HT_.out (by kernel_rfl)) (fun _ _ _ h => h) (Or.inl ⟨by rfl, ?_⟩) ?_ ?_
                rotate_left
                · intro w'
                  go_simp
                  with_reducible rfl
                rotate_left
                · simp only [Act.put, List.setIfInBounds_toArray, List.set_cons_zero, List.set_cons_succ, i64_w, i32_w]
                  rfl
                refine one_ (i := 8) (N := some 41) #[true, true, true, true, true, true, true, true, true, false, true, true, false, false, false] rfl rfl (one_of HT_.out (by kernel_rfl)) (by decide) (fun K hK => ?_)
                refine goes_ Try.func163 (by kernel_rfl) rfl #[.string t164] (by rfl) rfl rfl (by (try simp only [List.map_toArray, List.map_cons, List.map_nil]); first | done | rfl | (simp only [List.length_drop, List.length_take]; rfl)) ?_
                with_reducible refine (spec_l05Short.calls kj2 t164 t170 _ A19.out).mono ?_
                rintro e w33 ⟨rfl, hb⟩
                refine ⟨_, rfl, ?_⟩
                have n0_ := Aside0.mk (blk_below (g := gb163) (o := .cells #[.int .i64 a0_0, .int .i64 a0_1, .slice A0_2 l0_2.length c0_2, .string a0_3] 95 (0, 0)) (by (with_reducible repeat (first | refine blk_drewN ?_ _ | refine blk_drew ?_ | refine blk_alloc ?_ _)); exact BK163.out) hb)
                have n1_ := Aside0.mk (below_step (by repeat (first | (with_reducible first | exact HB.out | apply below_alloc | apply pw_below_drewN | apply below_drew1 | refine below_set ?_ GE163.out) | exact HB.out)) hb)
                clear BK163
                clear HB
                have BK163 := n0_
                have HB := n1_
                clear n0_ n1_
                (try clear hb)
                (try clear hb2)
                (try clear hk)
                (try clear hi)
                refine hK.out _ _ ⟨(blk_cell BK163.out 0).trans rfl, (blk_cell BK163.out 1).trans rfl, (blk_cell BK163.out 2).trans rfl, (blk_cell BK163.out 3).trans rfl⟩ (fun hHeld => ?_)
                clear hK K
                refine norm_ (a' := ?_) ?_ ?_
                rotate_left
                · show Act.put _ (some 41) _ = _
                  simp only [Act.put, List.setIfInBounds_toArray, List.set_cons_zero, List.set_cons_succ, i64_w, i32_w]
                  rfl
                refine pure_ (i := 9) (N := some 42) (v := ?_) (a' := ?_) #[true, true, true, true, true, true, true, true, true, true, true, true, false, false, false] rfl rfl (any_of HT_.out (by kernel_rfl)) (fun _ _ _ h => h) (Or.inl ⟨by rfl, ?_⟩) ?_ ?_
                rotate_left
                · intro w'
                  go_simp
                  with_reducible rfl
                rotate_left
                · simp only [Act.put, List.setIfInBounds_toArray, List.set_cons_zero, List.set_cons_succ, i64_w, i32_w]
                  rfl
                refine one_ (i := 12) (N := some 45) #[true, true, true, true, true, true, true, true, true, true, true, true, true, false, false] rfl rfl (one_of HT_.out (by kernel_rfl)) (by decide) (fun K hK => ?_)
                refine goes_ Try.func163 (by kernel_rfl) rfl #[.string a0_3] (by rfl) rfl rfl (by (try simp only [List.map_toArray, List.map_cons, List.map_nil]); first | done | rfl | (simp only [List.length_drop, List.length_take]; rfl)) ?_
                with_reducible refine (spec_l05Short.calls kj2 a0_3 t171 _ A21.out).mono ?_
                rintro e w34 ⟨rfl, hb⟩
                refine ⟨_, rfl, ?_⟩
                have n0_ := Aside0.mk (blk_below (g := gb163) (o := .cells #[.int .i64 a0_0, .int .i64 a0_1, .slice A0_2 l0_2.length c0_2, .string a0_3] 95 (0, 0)) (by (with_reducible repeat (first | refine blk_drewN ?_ _ | refine blk_drew ?_ | refine blk_alloc ?_ _)); exact BK163.out) hb)
                have n1_ := Aside0.mk (below_step (by repeat (first | (with_reducible first | exact HB.out | apply below_alloc | apply pw_below_drewN | apply below_drew1 | refine below_set ?_ GE163.out) | exact HB.out)) hb)
                clear BK163
                clear HB
                have BK163 := n0_
                have HB := n1_
                clear n0_ n1_
                (try clear hb)
                (try clear hb2)
                (try clear hk)
                (try clear hi)
                refine hK.out _ _ ⟨(blk_cell BK163.out 0).trans rfl, (blk_cell BK163.out 1).trans rfl, (blk_cell BK163.out 2).trans rfl, (blk_cell BK163.out 3).trans rfl⟩ (fun hHeld => ?_)
                clear hK K
                refine norm_ (a' := ?_) ?_ ?_
                rotate_left
                · show Act.put _ (some 45) _ = _
                  simp only [Act.put, List.setIfInBounds_toArray, List.set_cons_zero, List.set_cons_succ, i64_w, i32_w]
                  rfl
                refine pure_ (i := 13) (N := some 46) (v := ?_) (a' := ?_) #[true, true, true, true, true, true, true, true, true, true, true, true, true, true, false] rfl rfl (any_of HT_.out (by kernel_rfl)) (fun _ _ _ h => h) (Or.inl ⟨by rfl, ?_⟩) ?_ ?_
                rotate_left
                · intro w'
                  go_simp
                  with_reducible rfl
                rotate_left
                · simp only [Act.put, List.setIfInBounds_toArray, List.set_cons_zero, List.set_cons_succ, i64_w, i32_w]
                  rfl
                refine pure_ (i := 14) (N := some 6) (v := ?_) (a' := ?_) #[true, true, true, true, true, true, true, true, true, true, true, true, true, true, true] rfl rfl (any_of HT_.out (by kernel_rfl)) (fun _ _ _ h => h) (Or.inl ⟨by rfl, ?_⟩) ?_ ?_
                rotate_left
                · intro w'
                  go_simp
                  with_reducible rfl
                rotate_left
                · simp only [Act.put, List.setIfInBounds_toArray, List.set_cons_zero, List.set_cons_succ, i64_w, i32_w]
                  rfl
                refine done_ (done_of HT_.out (by kernel_rfl)) ?_
                try go_wp2_with (first | ((with_reducible refine gate_callee (f := 164) rfl ?_); refine goesL_ (some 52) rfl rfl Try.func164 (by kernel_rfl) rfl #[.string (((t168 ++ t169) ++ t170) ++ t171)] rfl (by (try simp only [List.map_toArray, List.map_cons, List.map_nil]); first | done | rfl | (simp only [List.length_drop, List.length_take]; rfl)) ?_; (with_reducible refine (spec_Sealed.calls kj2 (((t168 ++ t169) ++ t170) ++ t171) t172 t173 _ A29.out).mono ?_); rintro e w35 ⟨rfl, hb⟩; refine ⟨_, rfl, ?_⟩; have n0_ := Aside0.mk (blk_below (g := gb163) (o := .cells #[.int .i64 a0_0, .int .i64 a0_1, .slice A0_2 l0_2.length c0_2, .string a0_3] 95 (0, 0)) (by (with_reducible repeat (first | refine blk_drewN ?_ _ | refine blk_drew ?_ | refine blk_alloc ?_ _)); exact BK163.out) hb); have n1_ := Aside0.mk (below_step (by repeat (first | (with_reducible first | exact HB.out | apply below_alloc | apply pw_below_drewN | apply below_drew1 | refine below_set ?_ GE163.out) | exact HB.out)) hb); clear BK163; clear HB; have BK163 := n0_; have HB := n1_; clear n0_ n1_; (try clear hb); (try clear hb2); (try clear hk); (try clear hi)))
                go_ret2
                exact ⟨by first | rfl | (simp [errW_none, errW_some] <;> rfl) | (simp [*, errW_none, errW_some] <;> rfl), by repeat (first | (with_reducible first | exact HB.out | apply below_alloc | apply pw_below_drewN | apply below_drew1 | refine below_set ?_ GE163.out) | exact HB.out)⟩
            · rw [if_neg c22] at H
              exact absurd H (by simp)
          · rw [if_neg c20] at H
            exact absurd H (by simp)
        · rw [if_neg c18] at H
          exact absurd H (by simp)

/-! ### spec_ReadSnap: function 64, by hand -/ -- rounds making
/-- What stands while ReadSnap goes on: the cursor in block g, the snapshot to be answered (nothing yet) in b1, the snapshot that is read in b3. -/
structure spec_ReadSnap.Inv (w W : World) (b1 g b3 : Nat) (t : ByteArray) (a : Int) (bad : Bool) (x y : Int) (u : Value) (z : ByteArray) : Prop where
  st : IsS143 w W g t a bad
  r1 : W.heap[b1]? = some (.cells #[.int .i64 0, .int .i64 0, .slice none 0 0, .string ⟨#[]⟩] 95 (0, 0))
  e3 : W.heap[b3]? = some (.cells #[.int .i64 x, .int .i64 y, u, .string z] 95 (0, 0))
  bl : Below w.heap.size w W
  g1 : w.heap.size ≤ b1
  g3 : w.heap.size ≤ b3
  n1 : b1 ≠ g
  n3 : b3 ≠ g
  n13 : b1 ≠ b3
theorem spec_ReadSnap.Inv.call {w W W' : World} {b1 g b3 : Nat} {t t' : ByteArray} {a a' : Int} {bad bad' : Bool} {x y : Int} {u : Value} {z : ByteArray} (h : spec_ReadSnap.Inv w W b1 g b3 t a bad x y u z) (hs : IsS143 w W' g t' a' bad') (hb : Below w.heap.size w W') (hk : KeepBut W W' g none) : spec_ReadSnap.Inv w W' b1 g b3 t' a' bad' x y u z := ⟨hs, hk.blk h.r1 h.n1 (by simp), hk.blk h.e3 h.n3 (by simp), hb, h.g1, h.g3, h.n1, h.n3, h.n13⟩
theorem spec_ReadSnap.Inv.below {w W W' : World} {b1 g b3 : Nat} {t : ByteArray} {a : Int} {bad : Bool} {x y : Int} {u : Value} {z : ByteArray} (h : spec_ReadSnap.Inv w W b1 g b3 t a bad x y u z) (hb : Below W.heap.size W W') : spec_ReadSnap.Inv w W' b1 g b3 t a bad x y u z := ⟨h.st.below hb, blk_below h.r1 hb, blk_below h.e3 hb, below_step h.bl hb, h.g1, h.g3, h.n1, h.n3, h.n13⟩
theorem spec_ReadSnap.Inv.set0 {w W : World} {b1 g b3 : Nat} {t : ByteArray} {a : Int} {bad : Bool} {x y : Int} {u : Value} {z : ByteArray} (h : spec_ReadSnap.Inv w W b1 g b3 t a bad x y u z) (v : Int) : spec_ReadSnap.Inv w (W.setCell ⟨b3, 0, none⟩ (.int .i64 v)) b1 g b3 t a bad v y u z := ⟨h.st.far (Ne.symm h.n3) _, blk_far h.r1 h.n13 _, blk_put h.e3 0 _ rfl, below_set h.bl h.g3, h.g1, h.g3, h.n1, h.n3, h.n13⟩
theorem spec_ReadSnap.Inv.set1 {w W : World} {b1 g b3 : Nat} {t : ByteArray} {a : Int} {bad : Bool} {x y : Int} {u : Value} {z : ByteArray} (h : spec_ReadSnap.Inv w W b1 g b3 t a bad x y u z) (v : Int) : spec_ReadSnap.Inv w (W.setCell ⟨b3, 1, none⟩ (.int .i64 v)) b1 g b3 t a bad x v u z := ⟨h.st.far (Ne.symm h.n3) _, blk_far h.r1 h.n13 _, blk_put h.e3 1 _ rfl, below_set h.bl h.g3, h.g1, h.g3, h.n1, h.n3, h.n13⟩
theorem spec_ReadSnap.Inv.set2 {w W : World} {b1 g b3 : Nat} {t : ByteArray} {a : Int} {bad : Bool} {x y : Int} {u : Value} {z : ByteArray} (h : spec_ReadSnap.Inv w W b1 g b3 t a bad x y u z) (v : Value) : spec_ReadSnap.Inv w (W.setCell ⟨b3, 2, none⟩ (v)) b1 g b3 t a bad x y v z := ⟨h.st.far (Ne.symm h.n3) _, blk_far h.r1 h.n13 _, blk_put h.e3 2 _ rfl, below_set h.bl h.g3, h.g1, h.g3, h.n1, h.n3, h.n13⟩
theorem spec_ReadSnap.Inv.set3 {w W : World} {b1 g b3 : Nat} {t : ByteArray} {a : Int} {bad : Bool} {x y : Int} {u : Value} {z : ByteArray} (h : spec_ReadSnap.Inv w W b1 g b3 t a bad x y u z) (v : ByteArray) : spec_ReadSnap.Inv w (W.setCell ⟨b3, 3, none⟩ (.string v)) b1 g b3 t a bad x y u v := ⟨h.st.far (Ne.symm h.n3) _, blk_far h.r1 h.n13 _, blk_put h.e3 3 _ rfl, below_set h.bl h.g3, h.g1, h.g3, h.n1, h.n3, h.n13⟩
def spec_ReadSnap.Row (w W : World) (b1 g b3 : Nat) (v : Value) (xs : List Int) : Prop := Kd.R (Kd.int .i64) 3 W w.heap.size (fun k => k ≠ b1 ∧ k ≠ b3 ∧ k ≠ g) v xs
theorem spec_ReadSnap.Row.call {w W W' : World} {b1 g b3 : Nat} {v : Value} {xs : List Int} (h : spec_ReadSnap.Row w W b1 g b3 v xs) (hk : KeepBut W W' g none) : spec_ReadSnap.Row w W' b1 g b3 v xs := Kd.R_keep h hk (fun _ q => q.2.2)
theorem spec_ReadSnap.Row.below {w W W' : World} {b1 g b3 : Nat} {v : Value} {xs : List Int} (h : spec_ReadSnap.Row w W b1 g b3 v xs) (hb : Below W.heap.size W W') : spec_ReadSnap.Row w W' b1 g b3 v xs := Kd.R_below h hb
theorem spec_ReadSnap.Row.sete {w W : World} {b1 g b3 : Nat} {v : Value} {xs : List Int} (h : spec_ReadSnap.Row w W b1 g b3 v xs) (j : Nat) (u : Value) : spec_ReadSnap.Row w (W.setCell ⟨b3, j, none⟩ u) b1 g b3 v xs := Kd.R_far h (fun _ q => q.2.1) u
theorem spec_ReadSnap.Row.setr {w W : World} {b1 g b3 : Nat} {v : Value} {xs : List Int} (h : spec_ReadSnap.Row w W b1 g b3 v xs) (j : Nat) (u : Value) : spec_ReadSnap.Row w (W.setCell ⟨b1, j, none⟩ u) b1 g b3 v xs := Kd.R_far h (fun _ q => q.1) u
theorem spec_ReadSnap.Row.mk_ {w W W' : World} {b1 g b3 : Nat} {t : ByteArray} {a : Int} {bad : Bool} {x y : Int} {u : Value} {z : ByteArray} {v : Value} {xs : List Int} (hi : spec_ReadSnap.Inv w W' b1 g b3 t a bad x y u z) (h : Kd.R (Kd.int .i64) 3 W' W.heap.size (fun _ => True) v xs) (hle : w.heap.size ≤ W.heap.size) : spec_ReadSnap.Row w W' b1 g b3 v xs :=
  Kd.R_mono (Kd.R_types (Kd.R_types (Kd.R_types (Kd.R_lower h hle) hi.r1 (by decide)) hi.e3 (by decide)) hi.st.1 (by decide)) (fun _ q => ⟨q.1.1.2, q.1.2, q.2⟩)
def spec_ReadSnap.f (k : Nat) (a0 : ByteArray) : Option (Int × Int × List Int × ByteArray × Bool) :=
  (spec_Unsealed.f k a0).bind fun p0 => (spec_l05Var.f k p0.1 0 (!p0.2)).bind fun p1 => (spec_l05Var.f k p1.2.1 p1.2.2.1 p1.2.2.2).bind fun p2 => (spec_l05ReadShort.f k p2.2.1 p2.2.2.1 p2.2.2.2).bind fun p3 => (spec_ReadConf.f k p3.1).bind fun q => (spec_l05ReadShort.f k p3.2.1 p3.2.2.1 p3.2.2.2).bind fun p4 =>
  (spec_SnapText.f k p1.1 p2.1 q.1 p4.1).bind fun z => (if p4.2.2.2 = true then some (0, 0, ([] : List Int), (⟨#[]⟩ : ByteArray), false) else (if z.2 = true then (if z.1.toList = a0.toList then some (p1.1, p2.1, q.1, p4.1, true) else some (0, 0, ([] : List Int), (⟨#[]⟩ : ByteArray), false)) else some (0, 0, ([] : List Int), (⟨#[]⟩ : ByteArray), false)))
theorem spec_ReadSnap.mono : ∀ a0 k, LeO (spec_ReadSnap.f k a0) (spec_ReadSnap.f (k + 1) a0) := by
  intro a0 k
  unfold spec_ReadSnap.f
  repeat' first
      | (with_reducible exact spec_Unsealed.mono _ _)
      | (with_reducible exact spec_l05Var.mono _ _ _ _)
      | (with_reducible exact spec_l05ReadShort.mono _ _ _ _)
      | (with_reducible exact spec_ReadConf.mono _ _)
      | (with_reducible exact spec_SnapText.mono _ _ _ _ _)
      | (with_reducible exact LeO.refl _)
      | (with_reducible exact LeO.none _)
      | (with_reducible refine LeO.ite ?_ ?_)
      | (with_reducible refine LeO.bind ?_ (fun _ => ?_))
set_option maxHeartbeats 4000000 in
set_option maxRecDepth 100000 in
theorem spec_ReadSnap.calls (k : Nat) (a0 : ByteArray) (r1 : Int) (r2 : Int) (r3 : List Int) (r4 : ByteArray) (r5 : Bool) (w : World) (h : spec_ReadSnap.f k a0 = some (r1, r2, r3, r4, r5)) :
    Calls Try.prog 64 #[.string a0] w fun e w' => ∃ v2_ : Value, e = .returned (.tuple #[.agg #[.int .i64 r1, .int .i64 r2, v2_, .string r4], .bool r5]) ∧ Kd.R (Kd.int .i64) 3 w' w.heap.size (fun _ => True) v2_ r3 ∧ Below w.heap.size w w' := by
  unfold spec_ReadSnap.f at h
  obtain ⟨⟨x0, ok⟩, h0, h⟩ := Option.bind_eq_some_iff.mp h
  obtain ⟨⟨x1, t1, a1, b1⟩, h1, h⟩ := Option.bind_eq_some_iff.mp h
  obtain ⟨⟨x2, t2, a2, b2⟩, h2, h⟩ := Option.bind_eq_some_iff.mp h
  obtain ⟨⟨x3, t3, a3, b3⟩, h3, h⟩ := Option.bind_eq_some_iff.mp h
  obtain ⟨⟨xs, okc⟩, hq, h⟩ := Option.bind_eq_some_iff.mp h
  obtain ⟨⟨x4, t4, a4, b4⟩, h4, h⟩ := Option.bind_eq_some_iff.mp h
  obtain ⟨⟨z, okz⟩, hz, h⟩ := Option.bind_eq_some_iff.mp h
  simp only at h0 h1 h2 h3 h4 hq hz h
  have A0 := Aside0.mk h0
  have A1 := Aside0.mk h1
  have A2 := Aside0.mk h2
  have A3 := Aside0.mk h3
  have A4 := Aside0.mk h4
  have AQ := Aside0.mk hq
  have AZ := Aside0.mk hz
  have H := Aside0.mk h
  clear h0 h1 h2 h3 h4 hq hz h
  have no_ : (some (0, 0, ([] : List Int), (⟨#[]⟩ : ByteArray), false) = some (r1, r2, r3, r4, r5)) → r1 = 0 ∧ r2 = 0 ∧ r3 = [] ∧ r4 = ⟨#[]⟩ ∧ r5 = false := fun h => by simp only [Option.some.injEq, Prod.mk.injEq] at h; exact ⟨h.1.symm, h.2.1.symm, h.2.2.1.symm, h.2.2.2.1.symm, h.2.2.2.2.symm⟩
  have NO := Aside0.mk no_
  clear no_
  go_enter Try.func64, Try.ntmps64
  go_wp2_with (first | ((with_reducible refine gate_dst (N := 2) rfl ?_); refine box_event ?hg (N := 2) ?hd (cs := #[.int .i64 0, .int .i64 0, .slice none 0 0, .string (⟨#[]⟩ : ByteArray)]) (t := 95) ?hr ?_; (case hd => rfl); (case hg => rfl); (case hr => first | (go_simp; done) | (go_simp; rfl)); intro r hg w_r hbox hb; have Yr := Aside0.mk hbox; have Zr := Aside0.mk hb; have Gr := Aside0.mk hg; clear hbox hb hg) | (go_at_call 124; refine (spec_Unsealed.calls k a0 x0 ok _ A0.out).mono ?_; rintro e_ w_u ⟨rfl, hb⟩; have Yr2 := Aside0.mk (blk_below Yr.out hb); have Zr2 := Aside0.mk (below_step (below_step (Below.refl _ _) Zr.out) hb); clear hb Yr) | ((with_reducible refine gate_dst (N := 19) rfl ?_); refine box_event ?hg (N := 19) ?hd (cs := #[.string x0, .int .i64 0, .bool (!ok)]) (t := 143) ?hr ?_; (case hd => rfl); (case hg => rfl); (case hr => first | (go_simp; done) | (go_simp; rfl)); intro g hg w_g hbox hb; have Yg := Aside0.mk hbox; have Zg := Aside0.mk hb; have Gg := Aside0.mk hg; clear hbox hb hg) | ((with_reducible refine gate_dst (N := 7) rfl ?_); refine box_event ?hg (N := 7) ?hd (cs := #[.int .i64 0, .int .i64 0, .slice none 0 0, .string (⟨#[]⟩ : ByteArray)]) (t := 95) ?hr ?_; (case hd => rfl); (case hg => rfl); (case hr => first | (go_simp; done) | (go_simp; rfl)); intro e hg w_e hbox hb; have Ye := Aside0.mk hbox; have Ze := Aside0.mk hb; have Ge := Aside0.mk hg; clear hbox hb hg; have J0 := Aside0.mk (show spec_ReadSnap.Inv w w_e r g e x0 0 (!ok) 0 0 (.slice none 0 0) ⟨#[]⟩ from ⟨⟨blk_below Yg.out Ze.out, by rw [Gg.out]; exact Zr2.out.size⟩, blk_below (blk_below Yr2.out Zg.out) Ze.out, Ye.out, below_step (below_step Zr2.out Zg.out) Ze.out, Nat.le_of_eq Gr.out.symm, by rw [Ge.out]; exact Nat.le_trans Zr2.out.size Zg.out.size, by rw [Gg.out]; exact Nat.ne_of_lt (blk_lt Yr2.out), by rw [Ge.out]; exact Nat.ne_of_gt (blk_lt Yg.out), by rw [Ge.out]; exact Nat.ne_of_lt (Nat.lt_of_lt_of_le (blk_lt Yr2.out) Zg.out.size)⟩); clear Yr2 Zr Zr2 Gr Yg Zg Gg Ye Ze Ge; have c0 := blk_cell J0.out.e3 0; have c1 := blk_cell J0.out.e3 1; have c2 := blk_cell J0.out.e3 2; have c3 := blk_cell J0.out.e3 3; simp only [List.getElem?_toArray, List.getElem?_cons_zero, List.getElem?_cons_succ] at c0 c1 c2 c3; have f0 := blk_frozen J0.out.e3 0; have f1 := blk_frozen J0.out.e3 1; have f2 := blk_frozen J0.out.e3 2; have f3 := blk_frozen J0.out.e3 3))
  have K0 := Aside0.mk ((((J0.out.set0 0).set1 0).set2 (.slice none 0 0)).set3 ⟨#[]⟩)
  clear J0 c0 c1 c2 c3 f0 f1 f2 f3
  refine (spec_l05Var.calls k g x0 0 (!ok) x1 t1 a1 b1 w _ K0.out.st K0.out.bl A1.out).mono ?_
  rintro e_ w1 ⟨rfl, hs, hb, hk⟩
  have K1 := Aside0.mk (K0.out.call hs hb hk)
  clear hs hb hk K0 A1
  have c0 := blk_cell K1.out.e3 0
  simp only [List.getElem?_toArray, List.getElem?_cons_zero, List.getElem?_cons_succ] at c0
  have f0 := blk_frozen K1.out.e3 0
  go_wp2_with fail
  have K1b := Aside0.mk (K1.out.set0 x1)
  clear K1 c0 f0
  refine (spec_l05Var.calls k g t1 a1 b1 x2 t2 a2 b2 w _ K1b.out.st K1b.out.bl A2.out).mono ?_
  rintro e_ w2 ⟨rfl, hs, hb, hk⟩
  have K2 := Aside0.mk (K1b.out.call hs hb hk)
  clear hs hb hk K1b A2
  have c1 := blk_cell K2.out.e3 1
  simp only [List.getElem?_toArray, List.getElem?_cons_zero, List.getElem?_cons_succ] at c1
  have f1 := blk_frozen K2.out.e3 1
  go_wp2_with fail
  have K2b := Aside0.mk (K2.out.set1 x2)
  clear K2 c1 f1
  refine (spec_l05ReadShort.calls k g t2 a2 b2 x3 t3 a3 b3 w _ K2b.out.st K2b.out.bl A3.out).mono ?_
  rintro e_ w3 ⟨rfl, hs, hb, hk⟩
  have K3 := Aside0.mk (K2b.out.call hs hb hk)
  clear hs hb hk K2b A3
  go_wp2_with fail
  refine (spec_ReadConf.calls k x3 xs okc _ AQ.out).mono ?_
  rintro e_ w4 ⟨v, rfl, hr, hb⟩
  have K4 := Aside0.mk (K3.out.below hb)
  have V4 := Aside0.mk (spec_ReadSnap.Row.mk_ K4.out hr K3.out.bl.size)
  clear hr hb K3 AQ
  obtain ⟨A_, c_, ev⟩ := Kd.R_slice V4.out
  subst ev
  have c2 := blk_cell K4.out.e3 2
  simp only [List.getElem?_toArray, List.getElem?_cons_zero, List.getElem?_cons_succ] at c2
  have f2 := blk_frozen K4.out.e3 2
  go_wp2_with fail
  have K4b := Aside0.mk (K4.out.set2 (.slice A_ xs.length c_))
  have V4b := Aside0.mk (V4.out.sete 2 (.slice A_ xs.length c_))
  clear K4 V4 c2 f2
  refine (spec_l05ReadShort.calls k g t3 a3 b3 x4 t4 a4 b4 w _ K4b.out.st K4b.out.bl A4.out).mono ?_
  rintro e_ w5 ⟨rfl, hs, hb, hk⟩
  have K5 := Aside0.mk (K4b.out.call hs hb hk)
  have V5 := Aside0.mk (V4b.out.call hk)
  clear hs hb hk K4b A4
  clear V4b
  have c0 := blk_cell K5.out.e3 0
  have c1 := blk_cell K5.out.e3 1
  have c2 := blk_cell K5.out.e3 2
  have c3 := blk_cell K5.out.e3 3
  simp only [List.getElem?_toArray, List.getElem?_cons_zero, List.getElem?_cons_succ] at c0 c1 c2 c3
  have f0 := blk_frozen K5.out.e3 0
  have f1 := blk_frozen K5.out.e3 1
  have f2 := blk_frozen K5.out.e3 2
  have f3 := blk_frozen K5.out.e3 3
  go_wp2_with fail
  have K5b := Aside0.mk (K5.out.set3 x4)
  have V5b := Aside0.mk (V5.out.sete 3 (.string x4))
  clear K5 V5 c0 c1 c2 c3 f0 f1 f2 f3
  refine (spec_SnapText.calls k x1 x2 A_ c_ xs x4 z okz _ (Kd.R_reads' V5b.out).2.2 (Kd.R_reads' V5b.out).2.1 AZ.out).mono ?_
  rintro e_ w6 ⟨rfl, hb⟩
  have K6 := Aside0.mk (K5b.out.below hb)
  have V6 := Aside0.mk (V5b.out.below hb)
  clear hb K5b V5b AZ
  have s2 := blk_cell K6.out.st.1 2
  simp only [List.getElem?_toArray, List.getElem?_cons_zero, List.getElem?_cons_succ] at s2
  have c0 := blk_cell K6.out.e3 0
  have c1 := blk_cell K6.out.e3 1
  have c2 := blk_cell K6.out.e3 2
  have c3 := blk_cell K6.out.e3 3
  simp only [List.getElem?_toArray, List.getElem?_cons_zero, List.getElem?_cons_succ] at c0 c1 c2 c3
  have f0 := blk_frozen K6.out.e3 0
  have f1 := blk_frozen K6.out.e3 1
  have f2 := blk_frozen K6.out.e3 2
  have f3 := blk_frozen K6.out.e3 3
  have d0 := blk_cell K6.out.r1 0
  have d1 := blk_cell K6.out.r1 1
  have d2 := blk_cell K6.out.r1 2
  have d3 := blk_cell K6.out.r1 3
  simp only [List.getElem?_toArray, List.getElem?_cons_zero, List.getElem?_cons_succ] at d0 d1 d2 d3
  have g0 := blk_frozen K6.out.r1 0
  have g1 := blk_frozen K6.out.r1 1
  have g2 := blk_frozen K6.out.r1 2
  have g3 := blk_frozen K6.out.r1 3
  cases b4 with
  | true =>
    obtain ⟨rfl, rfl, rfl, rfl, rfl⟩ := NO.out (by have h_ := H.out; simpa using h_)
    clear NO
    go_wp2
    refine bodyPost_ret (results_list (rs := [.cell 2 95, .tmp 3]) rfl (by simp) (.cell r 95 #[.int .i64 0, .int .i64 0, .slice none 0 0, .string (⟨#[]⟩ : ByteArray)] (0, 0) _ rfl (blk_put (blk_put (blk_put (blk_put K6.out.r1 0 _ rfl) 1 _ rfl) 2 _ rfl) 3 _ rfl) Try.underlying95 rfl (by kernel_rfl) (.tmp .nil))) rfl ?_
    exact ⟨_, rfl, Kd.R_nil _ _ _ _ _, below_set (below_set (below_set (below_set (K6.out.bl) K6.out.g1) K6.out.g1) K6.out.g1) K6.out.g1⟩
  | false =>
    cases okz with
    | false =>
      obtain ⟨rfl, rfl, rfl, rfl, rfl⟩ := NO.out (by have h_ := H.out; simpa using h_)
      clear NO
      go_wp2
      refine bodyPost_ret (results_list (rs := [.cell 2 95, .tmp 3]) rfl (by simp) (.cell r 95 #[.int .i64 0, .int .i64 0, .slice none 0 0, .string (⟨#[]⟩ : ByteArray)] (0, 0) _ rfl (blk_put (blk_put (blk_put (blk_put K6.out.r1 0 _ rfl) 1 _ rfl) 2 _ rfl) 3 _ rfl) Try.underlying95 rfl (by kernel_rfl) (.tmp .nil))) rfl ?_
      exact ⟨_, rfl, Kd.R_nil _ _ _ _ _, below_set (below_set (below_set (below_set (K6.out.bl) K6.out.g1) K6.out.g1) K6.out.g1) K6.out.g1⟩
    | true =>
      have H1 := H.out
      simp only [Bool.false_eq_true, if_false, if_true] at H1
      by_cases i3 : z.toList = a0.toList
      · rw [if_pos i3] at H1
        simp only [Option.some.injEq, Prod.mk.injEq] at H1
        obtain ⟨rfl, rfl, rfl, rfl, rfl⟩ := H1
        have i3a : (z.toList == a0.toList) = true := by simpa using i3
        have i3b : (z.toList != a0.toList) = false := by simpa using i3
        clear NO H i3
        go_wp2
        refine bodyPost_ret (results_list (rs := [.cell 2 95, .tmp 3]) rfl (by simp) (.cell r 95 #[.int .i64 x1, .int .i64 x2, .slice A_ xs.length c_, .string x4] (0, 0) _ rfl (blk_put (blk_put (blk_put (blk_put K6.out.r1 0 _ rfl) 1 _ rfl) 2 _ rfl) 3 _ rfl) Try.underlying95 rfl (by kernel_rfl) (.tmp .nil))) rfl ?_
        exact ⟨_, rfl, Kd.R_mono (((((V6.out.setr 0 _).setr 1 _).setr 2 _).setr 3 _)) (fun _ _ => trivial), below_set (below_set (below_set (below_set (K6.out.bl) K6.out.g1) K6.out.g1) K6.out.g1) K6.out.g1⟩
      · rw [if_neg i3] at H1
        obtain ⟨rfl, rfl, rfl, rfl, rfl⟩ := NO.out H1
        have i3a : (z.toList == a0.toList) = false := by simpa using i3
        have i3b : (z.toList != a0.toList) = true := by simpa using i3
        clear NO H H1 i3
        go_wp2
        refine bodyPost_ret (results_list (rs := [.cell 2 95, .tmp 3]) rfl (by simp) (.cell r 95 #[.int .i64 0, .int .i64 0, .slice none 0 0, .string (⟨#[]⟩ : ByteArray)] (0, 0) _ rfl (blk_put (blk_put (blk_put (blk_put K6.out.r1 0 _ rfl) 1 _ rfl) 2 _ rfl) 3 _ rfl) Try.underlying95 rfl (by kernel_rfl) (.tmp .nil))) rfl ?_
        exact ⟨_, rfl, Kd.R_nil _ _ _ _ _, below_set (below_set (below_set (below_set (K6.out.bl) K6.out.g1) K6.out.g1) K6.out.g1) K6.out.g1⟩

end Go.Proofs.Ytaainenplcokaaa.QFnExactReadSnap
