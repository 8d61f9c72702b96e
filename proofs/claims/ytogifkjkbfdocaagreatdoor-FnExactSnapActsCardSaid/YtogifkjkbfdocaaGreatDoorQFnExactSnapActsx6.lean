/- Written by the kit's print.py, called by our own print2.sh with one import more; not by print.sh. -/
import Derived.Test.YtogifkjkbfdocaaGreatDoorQFnExactSnapActsx0
import Derived.Test.YtogifkjkbfdocaaGreatDoorQFnExactSnapActsx5
namespace Go.Proofs.YtogifkjkbfdocaaGreatDoor.QFnExactSnapActs
open Go.RowKit Go.Proofs.YtogifkjkbfdocaaGreatDoorW.PrintWords Go.Proofs.YtogifkjkbfdocaaGreatDoorW.PrintLast Go.Proofs.YtogifkjkbfdocaaGreatDoorW.PrintMore
attribute [local go_sem] max2_int min2_int max_two min_two max_three min_three max_four min_four   -- for this text's walks alone
open Go.Proofs.YtogifkjkbfdocaaGreatDoor.Short
set_option linter.unusedVariables false
set_option linter.unusedSimpArgs false

attribute [local go_sem high] gtr_str
/-! ### spec_l08Drops: function 29 -/
def spec_l08Drops.l0 : Nat → Int → List (S67) → Int → List (S63) → Option ((List (S67)))
 | 0, _, _, _, _ => none
 | k + 1, x1, x5, x6, x188000 => if x6 < (x188000.length : Int) then (if 0 ≤ x6 then ((spec_l08Index.f k ((rd_T63 x188000 x6).f0)).bind fun t192 => (if t192 ≥ 0 then (if t192 = x1 then (spec_l08Drops.l0 k x1 x5 (wrap64 (x6 + 1)) x188000) else (if x5.length < 2513169434916 then (spec_l08Drops.l0 k x1 (x5 ++ [(⟨4, (rd_T63 x188000 x6).f0, (⟨#[]⟩ : ByteArray), (⟨#[]⟩ : ByteArray)⟩ : S67)]) (wrap64 (x6 + 1)) x188000) else (none))) else (spec_l08Drops.l0 k x1 x5 (wrap64 (x6 + 1)) x188000))) else (none)) else (some x5)
def spec_l08Drops.f (k : Nat) (l0_0 : List (S63)) (a1 : Int) : Option ((List (S67))) := spec_l08Drops.l0 k a1 (([] : List (S67))) 0 l0_0
theorem spec_l08Drops.mono_l : ∀ k, (∀ y0 y1 y2 y3, LeO (spec_l08Drops.l0 k y0 y1 y2 y3) (spec_l08Drops.l0 (k + 1) y0 y1 y2 y3))
 | 0 => fun _ _ _ _ r h => by simp [spec_l08Drops.l0] at h
 | k + 1 => by
  have ih0 := spec_l08Drops.mono_l k
  ·intro y0 y1 y2 y3
   unfold spec_l08Drops.l0
   repeat' first
   | (with_reducible exact ih0 _ _ _ _)
   | (with_reducible exact spec_l08Index.mono _ _)
   | (with_reducible exact LeO.refl _)
   | (with_reducible exact LeO.none _)
   | (with_reducible refine LeO.ite ?_ ?_)
   | (with_reducible refine LeO.bind ?_ (fun _ => ?_))
   | exact ih0 _ _ _ _
   | exact spec_l08Index.mono _ _
   | exact LeO.none _
   | refine LeO.ite ?_ ?_
   | refine LeO.bind ?_ (fun _ => ?_)
theorem spec_l08Drops.mono : ∀ a0 a1 k, LeO (spec_l08Drops.f k a0 a1) (spec_l08Drops.f (k + 1) a0 a1) := by
 intro a0 a1 k
 have ih0 := spec_l08Drops.mono_l k
 unfold spec_l08Drops.f
 repeat' first
   | (with_reducible exact ih0 _ _ _ _)
   | (with_reducible exact spec_l08Index.mono _ _)
   | (with_reducible exact LeO.refl _)
   | (with_reducible exact LeO.none _)
   | (with_reducible refine LeO.ite ?_ ?_)
   | (with_reducible refine LeO.bind ?_ (fun _ => ?_))
   | exact ih0 _ _ _ _
   | exact spec_l08Index.mono _ _
   | exact LeO.none _
   | refine LeO.ite ?_ ?_
   | refine LeO.bind ?_ (fun _ => ?_)
set_option maxHeartbeats 8000000 in
set_option maxRecDepth 100000 in
theorem spec_l08Drops.calls (k : Nat) (A0_0 : Option Addr) (c0_0 : Nat) (l0_0 : List (S63)) (a1 : Int) (r : List (S67)) (w : World) (hr0_0 : Kd.C k63 w A0_0 l0_0.length l0_0) (hc0_0 : l0_0.length ≤ c0_0) (h : spec_l08Drops.f k l0_0 a1 = some r) :
  Calls Tryz.prog 29 #[.agg #[.slice A0_0 l0_0.length c0_0], .int .i64 a1] w fun e w' => ∃ v0_ : Value, e = .returned (v0_) ∧ Kd.R k67 67 w' w.heap.size (fun _ => True) v0_ r ∧ Below w.heap.size w w' := by
 have hu30 := Tryz.underlying30
 have hu67 := Tryz.underlying67
 have HR0_0 := Aside0.mk hr0_0
 have HC0_0 := Aside0.mk hc0_0
 clear hr0_0 hc0_0
 have HB := Aside0.mk (Below.refl w.heap.size w)
 have H : (spec_l08Drops.l0 k a1 (([] : List (S67))) 0 l0_0) = some r := h
 clear h
 obtain ⟨y188, hy188⟩ : ∃ y_ : List (S67), y_ = (([] : List (S67))) := ⟨_, rfl⟩
 replace H : (spec_l08Drops.l0 k a1 y188 0 l0_0) = some r := by first | (rw [hy188]; with_reducible exact H) | (have H2_ := (Option.bind_some _ _).symm.trans H; rw [hy188]; with_reducible exact H2_) | (have H2_ := (Option.bind_some _ _).symm.trans H; with_reducible exact H2_) | with_reducible exact H | (rw [hy188]; exact H) | exact H
 have Ny188 := Aside0.mk hy188
 clear hy188
 have H' := Aside0.mk H
 clear H
 go_enter Tryz.func29, Tryz.ntmps29
 go_wp2_with (first | ((with_reducible refine gate_dst (N := 2) rfl ?_); refine box_event ?hg (N := 2) ?hd (cs := #[.slice A0_0 l0_0.length c0_0]) (t := 30) ?hr ?_; (case hd => rfl); (case hg => rfl); (case hr => first | (go_simp; done) | (go_simp; rfl)); intro gb187 hg w3 hbox hb; have BK187 := am (hbox); have GW187 := zge hg (zb0 HB.out); have GE187 := zge hg (zb0 HB.out); replace HB := am (below_step (zb0 HB.out) hb); clear hb hbox hg) | ((with_reducible refine gate_dst (N := 8) rfl ?_); refine Kd.R_lit k67 _ 67 ?hg (N := 8) ?hd (xs := ([] : List (S67))) (inner := []) (ok := fun _ => True) (okp := fun _ => True) ?hr ?hp (fun _ hk => hk) trivial (Below.refl _ _) (Nat.le_refl _) (by simp) ?_; (case hd => rfl); (case hg => rfl); (case hr => first | (go_simp; done) | (go_simp; rfl)); (case hp => exact (Reps.none _ _)); intro v189 w4 ho5 hb hg_ hnew_; clear hg_ hnew_; (first | rw [← Ny188.out] at ho5 | (simp only [Int.reduceToNat] at ho5; rw [← Ny188.out] at ho5)); have HO190 := am (Kd.R_lower ho5 (below_size (zb1 HB.out GE187.out))); replace BK187 := am (bb hb (kx BK187.out)); replace HB := am (below_step (zb1 HB.out GE187.out) hb); clear hb ho5))
 go_loopg [5, 6] k (fun kq v5 v6 w' => ∃ (x5_1 : List (S67)) (x6_1 : Int), v6 = .int .i64 x6_1 ∧ Aside0 (spec_l08Drops.l0 kq a1 x5_1 x6_1 l0_0 = some r) ∧ Aside0 (kq ≤ k) ∧ Aside0 (Kd.R k67 67 w' w.heap.size (fun _ => True) v5 x5_1) ∧ Aside0 (w'.heap[gb187]? = some (.cells #[(.slice A0_0 l0_0.length c0_0)] 30 (0, 0))) ∧ Aside0 (Below w.heap.size w w'))
 case atStart => exact ⟨(y188), (0), (by first | rfl | (simp; done) | (simp [*]; done)), H', ⟨Nat.le_refl _⟩, ⟨rx HO190.out⟩, ⟨kx BK187.out⟩, ⟨zb1 HB.out GE187.out⟩⟩
 case round =>
  clear H'
  try clear c2
  try clear p2
  obtain ⟨x5_1, x6_1, rfl, HA, HK1, HO_5, BK187, HB⟩ := hrel
  cases gk with
  | zero => exact absurd HA.out (by simp [spec_l08Drops.l0])
  | succ k1 =>
   have H := HA.out
   clear HA
   simp only [spec_l08Drops.l0] at H
   by_cases c6 : x6_1 < (l0_0.length : Int)
   ·rw [if_pos c6] at H
    have c6b0 : decide (x6_1 < (l0_0.length : Int)) = true := decide_eq_true c6
    have c6b1 : decide ((l0_0.length : Int) ≤ x6_1) = false := decide_eq_false (by omega)
    clear c6
    by_cases c7 : 0 ≤ x6_1
    ·rw [if_pos c7] at H
     have c7b0 : decide (0 ≤ x6_1) = true := decide_eq_true c7
     clear c7
     replace H := Option.bind_eq_some_iff.mp H
     obtain ⟨t192, A80, H⟩ := H
     try dsimp only at H
     have A8 := Aside0.mk A80
     clear A80
     by_cases c9 : t192 ≥ 0
     ·rw [if_pos c9] at H
      have c9b0 : decide (0 ≤ t192) = true := decide_eq_true c9
      clear c9
      by_cases c10 : t192 = a1
      ·rw [if_pos c10] at H
       have c10b0 : (t192 == a1) = true := beq_iff_eq.mpr c10
       have c10b1 : (t192 != a1) = false := bne_eq_false_iff_eq.mpr c10
       clear c10
       have H' := Aside0.mk H
       clear H
       obtain ⟨hcz11_0, hfz11_0⟩ := zc1 BK187.out
       have p191 : 0 ≤ (x6_1 : Int) := of_decide_eq_true (by first | (with_reducible assumption) | assumption)
       have q191 : x6_1 < (l0_0.length : Int) := of_decide_eq_true (by first | (with_reducible assumption) | assumption)
       obtain ⟨ad191, e191, hx191_0, hx191_1, hx191_2⟩ := at_T63 HR0_0.out x6_1 p191 q191
       cases e191
       replace hx191_0 := (HB.out.cell (World.block_lt_of_cell? w _ hx191_0)).trans hx191_0
       replace hx191_1 := (HB.out.cell (World.block_lt_of_cell? w _ hx191_1)).trans hx191_1
       replace hx191_2 := (HB.out.cell (World.block_lt_of_cell? w _ hx191_2)).trans hx191_2
       replace p191 := eq_true p191
       replace q191 := eq_true q191
       go_wp2_with (first | ((with_reducible refine gate_callee (f := 64) rfl ?_); refine goesL_ (some 22) rfl rfl Tryz.func64 (by kernel_rfl) rfl #[.string ((rd_T63 l0_0 x6_1).f0)] rfl zr ?_; (with_reducible refine (spec_l08Index.calls k1 ((rd_T63 l0_0 x6_1).f0) t192 _ A8.out).mono ?_); rintro e w12 ⟨rfl, hb⟩; refine ⟨_, rfl, ?_⟩; replace HO_5 := am (Kd.R_below (rx HO_5.out) hb); replace BK187 := am (bb hb (kx BK187.out)); replace HB := am (below_step (zb1 HB.out GE187.out) hb); (try clear hb); (try clear hb2); (try clear hk); (try clear hi)))
       go_roundg k1
       case measure => have := HK1.out; omega
       case rel => exact ⟨(x5_1), (wrap64 (x6_1 + 1)), (by first | rfl | (simp; done) | (simp [*]; done)), H', ⟨by have := HK1.out; omega⟩, ⟨rx HO_5.out⟩, ⟨kx BK187.out⟩, ⟨zb1 HB.out GE187.out⟩⟩
      ·rw [if_neg c10] at H
       have c10b0 : (t192 == a1) = false := beq_eq_false_iff_ne.mpr c10
       have c10b1 : (t192 != a1) = true := bne_iff_ne.mpr c10
       by_cases c13 : x5_1.length < 2513169434916
       ·rw [if_pos c13] at H
        have LMc13 := Aside0.mk c13
        clear c13
        obtain ⟨y194, hy194⟩ : ∃ y_ : List (S67), y_ = (x5_1 ++ [(⟨4, (rd_T63 l0_0 x6_1).f0, (⟨#[]⟩ : ByteArray), (⟨#[]⟩ : ByteArray)⟩ : S67)]) := ⟨_, rfl⟩
        replace H : (spec_l08Drops.l0 k1 a1 y194 (wrap64 (x6_1 + 1)) l0_0) = some r := by first | (rw [hy194]; with_reducible exact H) | (have H2_ := (Option.bind_some _ _).symm.trans H; rw [hy194]; with_reducible exact H2_) | (have H2_ := (Option.bind_some _ _).symm.trans H; with_reducible exact H2_) | with_reducible exact H | (rw [hy194]; exact H) | exact H
        have Ny194 := Aside0.mk hy194
        clear hy194
        have H' := Aside0.mk H
        clear H
        obtain ⟨hcz14_0, hfz14_0⟩ := zc1 BK187.out
        have p191 : 0 ≤ (x6_1 : Int) := of_decide_eq_true (by first | (with_reducible assumption) | assumption)
        have q191 : x6_1 < (l0_0.length : Int) := of_decide_eq_true (by first | (with_reducible assumption) | assumption)
        obtain ⟨ad191, e191, hx191_0, hx191_1, hx191_2⟩ := at_T63 HR0_0.out x6_1 p191 q191
        cases e191
        replace hx191_0 := (HB.out.cell (World.block_lt_of_cell? w _ hx191_0)).trans hx191_0
        replace hx191_1 := (HB.out.cell (World.block_lt_of_cell? w _ hx191_1)).trans hx191_1
        replace hx191_2 := (HB.out.cell (World.block_lt_of_cell? w _ hx191_2)).trans hx191_2
        replace p191 := eq_true p191
        replace q191 := eq_true q191
        go_wp2_with (first | ((with_reducible refine gate_callee (f := 64) rfl ?_); refine goesL_ (some 22) rfl rfl Tryz.func64 (by kernel_rfl) rfl #[.string ((rd_T63 l0_0 x6_1).f0)] rfl zr ?_; (with_reducible refine (spec_l08Index.calls k1 ((rd_T63 l0_0 x6_1).f0) t192 _ A8.out).mono ?_); rintro e w15 ⟨rfl, hb⟩; refine ⟨_, rfl, ?_⟩; replace HO_5 := am (Kd.R_below (rx HO_5.out) hb); replace BK187 := am (bb hb (kx BK187.out)); replace HB := am (below_step (zb1 HB.out GE187.out) hb); (try clear hb); (try clear hb2); (try clear hk); (try clear hi); obtain ⟨hcz16_0, hfz16_0⟩ := zc1 BK187.out; have p193 : 0 ≤ (x6_1 : Int) := of_decide_eq_true (by first | (with_reducible assumption) | assumption); have q193 : x6_1 < (l0_0.length : Int) := of_decide_eq_true (by first | (with_reducible assumption) | assumption); obtain ⟨ad193, e193, hx193_0, hx193_1, hx193_2⟩ := at_T63 HR0_0.out x6_1 p193 q193; obtain rfl : ad191 = ad193 := (by injection e193); replace hx193_0 := (HB.out.cell (World.block_lt_of_cell? w _ hx193_0)).trans hx193_0; replace hx193_1 := (HB.out.cell (World.block_lt_of_cell? w _ hx193_1)).trans hx193_1; replace hx193_2 := (HB.out.cell (World.block_lt_of_cell? w _ hx193_2)).trans hx193_2; replace p193 := eq_true p193; replace q193 := eq_true q193) | ((with_reducible refine gate_builtin (b := .append) (xs := #[.tmp 30, .tmp 38]) rfl ?_); at_builtin; refine Kd.R_append k67 (w0 := w) w.heap.size rfl (.tmp 30) (.tmp 38) 26 67 (.agg #[(.int .i64 0), (.string ⟨#[]⟩), (.string ⟨#[]⟩), (.string ⟨#[]⟩)]) 56 rfl Tryz.underlying26 info67 rfl (by decide) (by omega) u5 x5_1 (⟨4, (rd_T63 l0_0 x6_1).f0, (⟨#[]⟩ : ByteArray), (⟨#[]⟩ : ByteArray)⟩ : S67) [.int .i64 4, .string ((rd_T63 l0_0 x6_1).f0), .string (⟨#[]⟩ : ByteArray), .string (⟨#[]⟩ : ByteArray)] (fun _ => True) (fun _ => False) rfl rfl ?aP (fun _ hk => hk.elim) ?aF ?aO ?aB ?aS ?aL ?_; (case aP => exact k67_mkM _ _ _ (⟨4, (rd_T63 l0_0 x6_1).f0, (⟨#[]⟩ : ByteArray), (⟨#[]⟩ : ByteArray)⟩ : S67)); (case aB => exact (zb1 HB.out GE187.out)); (case aF => exact (fun _ _ => trivial)); (case aO => exact (rx HO_5.out)); (case aS => exact (below_size (zb1 HB.out GE187.out))); (case aL => have := LMc13.out; omega); intro v195 w17 ho hb hg hat; rw [← Ny194.out] at ho; have HO196 := am (ho); replace BK187 := am (blk_grown (g := gb187) (o := .cells #[.slice (some ad191) l0_0.length c0_0] 30 (0, 0)) (kx BK187.out) hg (Kd.R_ne HO_5.out BK187.out (by decide))); replace HB := am (hb); clear HO_5; clear ho hb hg hat))
        go_roundg k1
        case measure => have := HK1.out; omega
        case rel => exact ⟨(y194), (wrap64 (x6_1 + 1)), (by first | rfl | (simp; done) | (simp [*]; done)), H', ⟨by have := HK1.out; omega⟩, ⟨rx HO196.out⟩, ⟨kx BK187.out⟩, ⟨zb1 HB.out GE187.out⟩⟩
       ·rw [if_neg c13] at H
        exact absurd H (by simp)
     ·rw [if_neg c9] at H
      have c9b0 : decide (0 ≤ t192) = false := decide_eq_false c9
      clear c9
      have H' := Aside0.mk H
      clear H
      obtain ⟨hcz18_0, hfz18_0⟩ := zc1 BK187.out
      have p191 : 0 ≤ (x6_1 : Int) := of_decide_eq_true (by first | (with_reducible assumption) | assumption)
      have q191 : x6_1 < (l0_0.length : Int) := of_decide_eq_true (by first | (with_reducible assumption) | assumption)
      obtain ⟨ad191, e191, hx191_0, hx191_1, hx191_2⟩ := at_T63 HR0_0.out x6_1 p191 q191
      cases e191
      replace hx191_0 := (HB.out.cell (World.block_lt_of_cell? w _ hx191_0)).trans hx191_0
      replace hx191_1 := (HB.out.cell (World.block_lt_of_cell? w _ hx191_1)).trans hx191_1
      replace hx191_2 := (HB.out.cell (World.block_lt_of_cell? w _ hx191_2)).trans hx191_2
      replace p191 := eq_true p191
      replace q191 := eq_true q191
      go_wp2_with (first | ((with_reducible refine gate_callee (f := 64) rfl ?_); refine goesL_ (some 22) rfl rfl Tryz.func64 (by kernel_rfl) rfl #[.string ((rd_T63 l0_0 x6_1).f0)] rfl zr ?_; (with_reducible refine (spec_l08Index.calls k1 ((rd_T63 l0_0 x6_1).f0) t192 _ A8.out).mono ?_); rintro e w19 ⟨rfl, hb⟩; refine ⟨_, rfl, ?_⟩; replace HO_5 := am (Kd.R_below (rx HO_5.out) hb); replace BK187 := am (bb hb (kx BK187.out)); replace HB := am (below_step (zb1 HB.out GE187.out) hb); (try clear hb); (try clear hb2); (try clear hk); (try clear hi)))
      go_roundg k1
      case measure => have := HK1.out; omega
      case rel => exact ⟨(x5_1), (wrap64 (x6_1 + 1)), (by first | rfl | (simp; done) | (simp [*]; done)), H', ⟨by have := HK1.out; omega⟩, ⟨rx HO_5.out⟩, ⟨kx BK187.out⟩, ⟨zb1 HB.out GE187.out⟩⟩
    ·rw [if_neg c7] at H
     exact absurd H (by simp)
   ·rw [if_neg c6] at H
    have c6b0 : decide (x6_1 < (l0_0.length : Int)) = false := decide_eq_false c6
    have c6b1 : decide ((l0_0.length : Int) ≤ x6_1) = true := decide_eq_true (by omega)
    clear c6
    obtain rfl := Option.some.inj H
    obtain ⟨hcz20_0, hfz20_0⟩ := zc1 BK187.out
    go_wp2
    go_ret
    exact ⟨_, by first | rfl | (simp [errW_none, errW_some] <;> rfl) | (simp [*, errW_none, errW_some] <;> rfl), rx HO_5.out, zb1 HB.out GE187.out⟩

/-! ### spec_l03Name: function 71 -/
def spec_l03Name.f (a0 : ByteArray) : Option (Bool) := (spec_l01In.f (a0.size : Int) 1 8).bind fun t197 => (some t197)
set_option maxHeartbeats 8000000 in
set_option maxRecDepth 100000 in
theorem spec_l03Name.calls (a0 : ByteArray) (r : Bool) (w : World) (h : spec_l03Name.f a0 = some r) :
  Calls Tryz.prog 71 #[.string a0] w fun e w' => e = .returned (.bool r) ∧ Drawn0 w w' := by
 have H : ((spec_l01In.f (a0.size : Int) 1 8).bind fun t197 => (some t197)) = some r := h
 clear h
 replace H := Option.bind_eq_some_iff.mp H
 obtain ⟨t197, A20, H⟩ := H
 try dsimp only at H
 have A2 := Aside0.mk A20
 clear A20
 obtain rfl := Option.some.inj H
 go_enter Tryz.func71, Tryz.ntmps71
 go_wp2_with (first | ((with_reducible refine gate_callee (f := 72) rfl ?_); refine goesL_ (some 5) rfl rfl Tryz.func72 (by kernel_rfl) rfl #[.int .i64 (a0.size : Int), .int .i64 1, .int .i64 8] rfl zr ?_; (with_reducible refine (spec_l01In.calls (a0.size : Int) 1 8 t197 _ A2.out).mono ?_); rintro e w' ⟨rfl, ⟨nd, rfl⟩⟩; refine ⟨_, rfl, ?_⟩))
 go_ret
 exact ⟨by first | rfl | (simp; done) | (simp [*]; done), by repeat (first | exact Drawn0.refl _ | apply Drawn0.step)⟩

/-! ### spec_DiskOk: function 38, by hand -/ -- rounds making
def spec_DiskOk.l0 : Nat → Int → List (S63) → Option (Bool)
 | 0, _, _ => none
 | k + 1, x3, x109000 => if x3 < (x109000.length : Int) then (if 0 ≤ x3 then ((spec_l03Name.f ((rd_T63 x109000 x3).f0)).bind fun t111 => (if t111 = true then (if (((rd_T63 x109000 x3).f1).size : Int) > 20000 then (some false) else ((spec_l01In.f ((rd_T63 x109000 x3).f2) 0 (((rd_T63 x109000 x3).f1).size : Int)).bind fun t112 => (if t112 = true then (if x3 > 0 then (if 0 ≤ (wrap64 (x3 - 1)) then (if (wrap64 (x3 - 1)) < (x109000.length : Int) then (if ((Op.bytesLess (((rd_T63 x109000 (wrap64 (x3 - 1))).f0).toList) (((rd_T63 x109000 x3).f0).toList)) = true) then (spec_DiskOk.l0 k (wrap64 (x3 + 1)) x109000) else (some false)) else (none)) else (none)) else (spec_DiskOk.l0 k (wrap64 (x3 + 1)) x109000)) else (some false)))) else (some false))) else (none)) else (some true)
def spec_DiskOk.f (k : Nat) (l0_0 : List (S63)) : Option (Bool) := if (l0_0.length : Int) > 30 then (some false) else (spec_DiskOk.l0 k 0 l0_0)
theorem spec_DiskOk.mono_l : ∀ k, (∀ y0 y1, LeO (spec_DiskOk.l0 k y0 y1) (spec_DiskOk.l0 (k + 1) y0 y1))
 | 0 => fun _ _ r h => by simp [spec_DiskOk.l0] at h
 | k + 1 => by
  have ih0 := spec_DiskOk.mono_l k
  ·intro y0 y1
   unfold spec_DiskOk.l0
   repeat' first
   | (with_reducible exact ih0 _ _)
   | (with_reducible exact LeO.refl _)
   | (with_reducible exact LeO.none _)
   | (with_reducible refine LeO.ite ?_ ?_)
   | (with_reducible refine LeO.bind ?_ (fun _ => ?_))
   | exact ih0 _ _
   | exact LeO.none _
   | refine LeO.ite ?_ ?_
   | refine LeO.bind ?_ (fun _ => ?_)
theorem spec_DiskOk.mono : ∀ a0 k, LeO (spec_DiskOk.f k a0) (spec_DiskOk.f (k + 1) a0) := by
 intro a0 k
 have ih0 := spec_DiskOk.mono_l k
 unfold spec_DiskOk.f
 repeat' first
   | (with_reducible exact ih0 _ _)
   | (with_reducible exact LeO.refl _)
   | (with_reducible exact LeO.none _)
   | (with_reducible refine LeO.ite ?_ ?_)
   | (with_reducible refine LeO.bind ?_ (fun _ => ?_))
   | exact ih0 _ _
   | exact LeO.none _
   | refine LeO.ite ?_ ?_
   | refine LeO.bind ?_ (fun _ => ?_)
set_option maxHeartbeats 8000000 in
set_option maxRecDepth 100000 in
theorem spec_DiskOk.calls (k : Nat) (A0_0 : Option Addr) (c0_0 : Nat) (l0_0 : List (S63)) (r : Bool) (w : World) (hr0_0 : Kd.C k63 w A0_0 l0_0.length l0_0) (hc0_0 : l0_0.length ≤ c0_0) (h : spec_DiskOk.f k l0_0 = some r) :
  Calls Tryz.prog 38 #[.agg #[.slice A0_0 l0_0.length c0_0]] w fun e w' => e = .returned (.bool r) ∧ Below w.heap.size w w' := by
 have HR := Aside0.mk hr0_0
 have HX := Aside0.mk h
 clear hr0_0 hc0_0 h
 by_cases c30 : (l0_0.length : Int) > 30
 ·have HX := HX.out
  unfold spec_DiskOk.f at HX
  rw [if_pos c30] at HX
  obtain rfl := Option.some.inj HX
  have y1 : decide (30 < (l0_0.length : Int)) = true := decide_eq_true c30
  have y2 : decide (30 < l0_0.length) = true := decide_eq_true (by omega)
  clear c30 HX
  go_enter Tryz.func38, Tryz.ntmps38
  go_wp2_with ((with_reducible refine gate_dst (N := 1) rfl ?_); refine box_event ?hg (N := 1) ?hd (cs := #[.slice A0_0 l0_0.length c0_0]) (t := 30) ?hr ?_; (case hd => rfl); (case hg => rfl); (case hr => first | (go_simp; done) | (go_simp; rfl)); intro gd hg w2 hbox hb; have BK := Aside0.mk hbox; have HB := Aside0.mk hb; have c0 := blk_cell hbox 0; simp only [List.getElem?_toArray, List.getElem?_cons_zero] at c0; clear hbox hb hg)
  go_ret
  exact ⟨rfl, HB.out⟩
 have H' : Aside0 (spec_DiskOk.l0 k 0 l0_0 = some r) := ⟨by
  have HX := HX.out
  unfold spec_DiskOk.f at HX
  rw [if_neg c30] at HX
  exact HX⟩
 have y1 : decide (30 < (l0_0.length : Int)) = false := decide_eq_false c30
 have y2 : decide (30 < l0_0.length) = false := decide_eq_false (by omega)
 clear c30 HX
 go_enter Tryz.func38, Tryz.ntmps38
 go_wp2_with ((with_reducible refine gate_dst (N := 1) rfl ?_); refine box_event ?hg (N := 1) ?hd (cs := #[.slice A0_0 l0_0.length c0_0]) (t := 30) ?hr ?_; (case hd => rfl); (case hg => rfl); (case hr => first | (go_simp; done) | (go_simp; rfl)); intro gd hg w2 hbox hb; have BK := Aside0.mk hbox; have HB := Aside0.mk hb; have c0 := blk_cell hbox 0; simp only [List.getElem?_toArray, List.getElem?_cons_zero] at c0; clear hbox hb hg)
 go_loopg [3] k (fun kq v8 w' => ∃ x : Int, v8 = .int .i64 x ∧ Aside0 (spec_DiskOk.l0 kq x l0_0 = some r) ∧ Aside0 (kq ≤ k) ∧ Aside0 (w'.heap[gd]? = some (.cells #[.slice A0_0 l0_0.length c0_0] 30 (0, 0))) ∧ Aside0 (Below w.heap.size w w'))
 case atStart => exact ⟨0, rfl, H', ⟨Nat.le_refl _⟩, BK, HB⟩
 case round =>
  clear H' BK HB c0 y1 y2
  obtain ⟨x, rfl, HA, HK1, BK, HB⟩ := hrel
  have c0 := blk_cell BK.out 0
  simp only [List.getElem?_toArray, List.getElem?_cons_zero] at c0
  cases gk with
  | zero => exact absurd HA.out (by simp [spec_DiskOk.l0])
  | succ k1 =>
   have H := HA.out
   clear HA
   simp only [spec_DiskOk.l0] at H
   by_cases c1 : x < (l0_0.length : Int)
   ·rw [if_pos c1] at H
    by_cases c2 : 0 ≤ x
    ·rw [if_pos c2] at H
     have x1 : decide (x < (l0_0.length : Int)) = true := decide_eq_true c1
     have x2 : decide ((l0_0.length : Int) ≤ x) = false := decide_eq_false (by omega)
     obtain ⟨ad, e, t0, t1, t2⟩ := at_T63 HR.out x c2 c1
     have ea := Aside0.mk e
     replace t0 := (HB.out.cell (World.block_lt_of_cell? w _ t0)).trans t0
     replace t1 := (HB.out.cell (World.block_lt_of_cell? w _ t1)).trans t1
     replace t2 := (HB.out.cell (World.block_lt_of_cell? w _ t2)).trans t2
     cases e
     have p0 := eq_true c2
     have q0 := eq_true c1
     have C1 := Aside0.mk c1
     have C2 := Aside0.mk c2
     clear c1 c2 ea
     obtain ⟨f, hf⟩ : ∃ f, f = rd_T63 l0_0 x := ⟨_, rfl⟩
     rw [← hf] at H t0 t1 t2
     have HF := Aside0.mk hf
     clear hf
     have HH := Aside0.mk H
     clear H
     go_wp2_with ((with_reducible refine gate_dst (N := 4) rfl ?_); refine box_event ?hg (N := 4) ?hd (cs := #[.string (⟨#[]⟩ : ByteArray), .string (⟨#[]⟩ : ByteArray), .int .i64 0]) (t := 63) ?hr ?_; (case hd => rfl); (case hg => rfl); (case hr => first | (go_simp; done) | (go_simp; rfl)); intro gb hg w_b hbox hb; have YB := Aside0.mk hbox; have ZB := Aside0.mk hb; have GB := Aside0.mk hg; have d0 := blk_cell hbox 0; have d1 := blk_cell hbox 1; have d2 := blk_cell hbox 2; simp only [List.getElem?_toArray, List.getElem?_cons_zero, List.getElem?_cons_succ] at d0 d1 d2; have f0 := blk_frozen hbox 0; have f1 := blk_frozen hbox 1; have f2 := blk_frozen hbox 2; clear hbox hb hg)
     have hgd : gd ≠ gb := by have := blk_lt BK.out; have := GB.out; omega
     have B3 : Aside0 ((((w_b.setCell ⟨gb, 0, none⟩ (.string f.f0)).setCell ⟨gb, 1, none⟩ (.string f.f1)).setCell ⟨gb, 2, none⟩ (.int .i64 f.f2)).heap[gb]? = some (.cells #[.string f.f0, .string f.f1, .int .i64 f.f2] 63 (0, 0))) := ⟨blk_put (blk_put (blk_put YB.out 0 (.string f.f0) rfl) 1 (.string f.f1) rfl) 2 (.int .i64 f.f2) rfl⟩
     have D3 : Aside0 ((((w_b.setCell ⟨gb, 0, none⟩ (.string f.f0)).setCell ⟨gb, 1, none⟩ (.string f.f1)).setCell ⟨gb, 2, none⟩ (.int .i64 f.f2)).heap[gd]? = some (.cells #[.slice (some ad) l0_0.length c0_0] 30 (0, 0))) := ⟨blk_far (blk_far (blk_far (blk_below BK.out ZB.out) hgd _) hgd _) hgd _⟩
     have hgb : w.heap.size ≤ gb := by rw [GB.out]; exact HB.out.size
     have H3 : Aside0 (Below w.heap.size w (((w_b.setCell ⟨gb, 0, none⟩ (.string f.f0)).setCell ⟨gb, 1, none⟩ (.string f.f1)).setCell ⟨gb, 2, none⟩ (.int .i64 f.f2))) := ⟨below_set (below_set (below_set (below_step HB.out ZB.out) hgb) hgb) hgb⟩
     clear BK HB YB ZB GB c0 d0 d1 d2 f0 f1 f2 hgd hgb t0 t1 t2
     generalize (((w_b.setCell ⟨gb, 0, none⟩ (.string f.f0)).setCell ⟨gb, 1, none⟩ (.string f.f1)).setCell ⟨gb, 2, none⟩ (.int .i64 f.f2)) = W3 at B3 D3 H3 ⊢
     have d0 := blk_cell B3.out 0
     have d1 := blk_cell B3.out 1
     have d2 := blk_cell B3.out 2
     have g0 := blk_cell D3.out 0
     simp only [List.getElem?_toArray, List.getElem?_cons_zero, List.getElem?_cons_succ] at d0 d1 d2 g0
     have H := HH.out
     clear HH
     obtain ⟨b1, h1, H⟩ := Option.bind_eq_some_iff.mp H
     have A1 := Aside0.mk h1
     clear h1
     cases b1 with
     | false =>
      obtain rfl := Option.some.inj H
      clear H
      go_quiet (first | (go_at_call 71; (with_reducible refine (spec_l03Name.calls f.f0 false _ A1.out).mono ?_); rintro e w' ⟨rfl, ⟨nd, rfl⟩⟩; (try first | exact ⟨rfl, _, World.drewN_drewN _ _ _⟩ | exact ⟨rfl, _, Eq.trans (World.drewN_drewN _ _ _) (congrArg (World.drewN _) (Nat.add_assoc _ _ _))⟩)))
      go_wp2
      go_ret
      exact ⟨rfl, pw_below_drewN H3.out _⟩
     | true =>
      rw [if_pos rfl] at H
      by_cases c3 : (f.f1.size : Int) > 20000
      ·rw [if_pos c3] at H
       have y1 : decide (20000 < (f.f1.size : Int)) = true := decide_eq_true c3
       have y2 : decide (20000 < f.f1.size) = true := decide_eq_true (by omega)
       clear c3
       obtain rfl := Option.some.inj H
       clear H
       go_quiet (first | (go_at_call 71; (with_reducible refine (spec_l03Name.calls f.f0 true _ A1.out).mono ?_); rintro e w' ⟨rfl, ⟨nd, rfl⟩⟩; (try first | exact ⟨rfl, _, World.drewN_drewN _ _ _⟩ | exact ⟨rfl, _, Eq.trans (World.drewN_drewN _ _ _) (congrArg (World.drewN _) (Nat.add_assoc _ _ _))⟩)))
       go_wp2
       go_ret
       exact ⟨rfl, pw_below_drewN H3.out _⟩
      ·rw [if_neg c3] at H
       have y1 : decide (20000 < (f.f1.size : Int)) = false := decide_eq_false c3
       have y2 : decide (20000 < f.f1.size) = false := decide_eq_false (by omega)
       clear c3
       obtain ⟨b2, h2, H⟩ := Option.bind_eq_some_iff.mp H
       have A2 := Aside0.mk h2
       clear h2
       cases b2 with
       | false =>
        obtain rfl := Option.some.inj H
        clear H
        go_quiet (first | (go_at_call 71; (with_reducible refine (spec_l03Name.calls f.f0 true _ A1.out).mono ?_); rintro e w' ⟨rfl, ⟨nd, rfl⟩⟩; (try first | exact ⟨rfl, _, World.drewN_drewN _ _ _⟩ | exact ⟨rfl, _, Eq.trans (World.drewN_drewN _ _ _) (congrArg (World.drewN _) (Nat.add_assoc _ _ _))⟩)) | (go_at_call 72; (with_reducible refine (spec_l01In.calls f.f2 0 (f.f1.size : Int) false _ A2.out).mono ?_); rintro e w' ⟨rfl, ⟨nd, rfl⟩⟩; (try first | exact ⟨rfl, _, World.drewN_drewN _ _ _⟩ | exact ⟨rfl, _, Eq.trans (World.drewN_drewN _ _ _) (congrArg (World.drewN _) (Nat.add_assoc _ _ _))⟩)))
        go_wp2
        go_ret
        exact ⟨rfl, pw_below_drewN H3.out _⟩
       | true =>
        rw [if_pos rfl] at H
        by_cases c4 : x > 0
        ·rw [if_pos c4] at H
         have z1 : decide (0 < x) = true := decide_eq_true c4
         by_cases c5 : 0 ≤ wrap64 (x - 1)
         ·rw [if_pos c5] at H
          by_cases c6 : wrap64 (x - 1) < (l0_0.length : Int)
          ·rw [if_pos c6] at H
           obtain ⟨ad', e', t0, _, _⟩ := at_T63 HR.out (wrap64 (x - 1)) c5 c6
           obtain rfl : ad = ad' := by injection e'
           replace t0 := (H3.out.cell (World.block_lt_of_cell? w _ t0)).trans t0
           have p1 := eq_true c5
           have p2 := eq_true c6
           clear c4 c5 c6 e'
           by_cases c7 : Op.bytesLess (rd_T63 l0_0 (wrap64 (x - 1))).f0.toList f.f0.toList = true
           ·rw [if_pos c7] at H
            have HA := Aside0.mk H
            clear H
            go_quiet (first | (go_at_call 71; (with_reducible refine (spec_l03Name.calls f.f0 true _ A1.out).mono ?_); rintro e w' ⟨rfl, ⟨nd, rfl⟩⟩; (try first | exact ⟨rfl, _, World.drewN_drewN _ _ _⟩ | exact ⟨rfl, _, Eq.trans (World.drewN_drewN _ _ _) (congrArg (World.drewN _) (Nat.add_assoc _ _ _))⟩)) | (go_at_call 72; (with_reducible refine (spec_l01In.calls f.f2 0 (f.f1.size : Int) true _ A2.out).mono ?_); rintro e w' ⟨rfl, ⟨nd, rfl⟩⟩; (try first | exact ⟨rfl, _, World.drewN_drewN _ _ _⟩ | exact ⟨rfl, _, Eq.trans (World.drewN_drewN _ _ _) (congrArg (World.drewN _) (Nat.add_assoc _ _ _))⟩)))
            go_wp2
            go_roundg k1
            case measure => have := HK1.out; omega
            case rel => exact ⟨wrap64 (x + 1), (by first | rfl | (simp; done) | (simp [*]; done)), HA, ⟨by have := HK1.out; omega⟩, D3, ⟨pw_below_drewN H3.out _⟩⟩
           ·rw [if_neg c7] at H
            have c7' : Op.bytesLess (rd_T63 l0_0 (wrap64 (x - 1))).f0.toList f.f0.toList = false := by simpa using c7
            clear c7
            obtain rfl := Option.some.inj H
            clear H
            go_quiet (first | (go_at_call 71; (with_reducible refine (spec_l03Name.calls f.f0 true _ A1.out).mono ?_); rintro e w' ⟨rfl, ⟨nd, rfl⟩⟩; (try first | exact ⟨rfl, _, World.drewN_drewN _ _ _⟩ | exact ⟨rfl, _, Eq.trans (World.drewN_drewN _ _ _) (congrArg (World.drewN _) (Nat.add_assoc _ _ _))⟩)) | (go_at_call 72; (with_reducible refine (spec_l01In.calls f.f2 0 (f.f1.size : Int) true _ A2.out).mono ?_); rintro e w' ⟨rfl, ⟨nd, rfl⟩⟩; (try first | exact ⟨rfl, _, World.drewN_drewN _ _ _⟩ | exact ⟨rfl, _, Eq.trans (World.drewN_drewN _ _ _) (congrArg (World.drewN _) (Nat.add_assoc _ _ _))⟩)))
            go_wp2
            go_ret
            exact ⟨rfl, pw_below_drewN H3.out _⟩
          ·rw [if_neg c6] at H
           exact absurd H (by simp)
         ·rw [if_neg c5] at H
          exact absurd H (by simp)
        ·rw [if_neg c4] at H
         have z1 : decide (0 < x) = false := decide_eq_false c4
         clear c4
         have HA := Aside0.mk H
         clear H
         go_quiet (first | (go_at_call 71; (with_reducible refine (spec_l03Name.calls f.f0 true _ A1.out).mono ?_); rintro e w' ⟨rfl, ⟨nd, rfl⟩⟩; (try first | exact ⟨rfl, _, World.drewN_drewN _ _ _⟩ | exact ⟨rfl, _, Eq.trans (World.drewN_drewN _ _ _) (congrArg (World.drewN _) (Nat.add_assoc _ _ _))⟩)) | (go_at_call 72; (with_reducible refine (spec_l01In.calls f.f2 0 (f.f1.size : Int) true _ A2.out).mono ?_); rintro e w' ⟨rfl, ⟨nd, rfl⟩⟩; (try first | exact ⟨rfl, _, World.drewN_drewN _ _ _⟩ | exact ⟨rfl, _, Eq.trans (World.drewN_drewN _ _ _) (congrArg (World.drewN _) (Nat.add_assoc _ _ _))⟩)))
         go_wp2
         go_roundg k1
         case measure => have := HK1.out; omega
         case rel => exact ⟨wrap64 (x + 1), (by first | rfl | (simp; done) | (simp [*]; done)), HA, ⟨by have := HK1.out; omega⟩, D3, ⟨pw_below_drewN H3.out _⟩⟩
    ·rw [if_neg c2] at H
     exact absurd H (by simp)
   ·rw [if_neg c1] at H
    have x1 : decide (x < (l0_0.length : Int)) = false := decide_eq_false c1
    have x2 : decide ((l0_0.length : Int) ≤ x) = true := decide_eq_true (by omega)
    clear c1
    obtain rfl := Option.some.inj H
    clear H
    go_wp2
    go_ret
    exact ⟨by first | rfl | (simp; done), HB.out⟩

/-! ### spec_l05Rise: function 156 -/
def spec_l05Rise.l0 : Nat → List Int → Int → Int → Int → Option (Bool)
 | 0, _, _, _, _ => none
 | k + 1, x0, x1, x2, x7 => if x7 < (x0.length : Int) then (if 0 ≤ x7 then ((spec_l01In.f (rd x0 x7) x1 x2).bind fun t199 => (if t199 = true then (if x7 > 0 then (if 0 ≤ (wrap64 (x7 - 1)) then (if (wrap64 (x7 - 1)) < (x0.length : Int) then (if (rd x0 (wrap64 (x7 - 1))) ≥ (rd x0 x7) then (some false) else (spec_l05Rise.l0 k x0 x1 x2 (wrap64 (x7 + 1)))) else (none)) else (none)) else (spec_l05Rise.l0 k x0 x1 x2 (wrap64 (x7 + 1)))) else (some false))) else (none)) else (some true)
def spec_l05Rise.f (k : Nat) (l0 : List Int) (a1 : Int) (a2 : Int) : Option (Bool) := spec_l05Rise.l0 k l0 a1 a2 0
theorem spec_l05Rise.mono_l : ∀ k, (∀ y0 y1 y2 y3, LeO (spec_l05Rise.l0 k y0 y1 y2 y3) (spec_l05Rise.l0 (k + 1) y0 y1 y2 y3))
 | 0 => fun _ _ _ _ r h => by simp [spec_l05Rise.l0] at h
 | k + 1 => by
  have ih0 := spec_l05Rise.mono_l k
  ·intro y0 y1 y2 y3
   unfold spec_l05Rise.l0
   repeat' first
   | (with_reducible exact ih0 _ _ _ _)
   | (with_reducible exact LeO.refl _)
   | (with_reducible exact LeO.none _)
   | (with_reducible refine LeO.ite ?_ ?_)
   | (with_reducible refine LeO.bind ?_ (fun _ => ?_))
   | exact ih0 _ _ _ _
   | exact LeO.none _
   | refine LeO.ite ?_ ?_
   | refine LeO.bind ?_ (fun _ => ?_)
theorem spec_l05Rise.mono : ∀ a0 a1 a2 k, LeO (spec_l05Rise.f k a0 a1 a2) (spec_l05Rise.f (k + 1) a0 a1 a2) := by
 intro a0 a1 a2 k
 have ih0 := spec_l05Rise.mono_l k
 unfold spec_l05Rise.f
 repeat' first
   | (with_reducible exact ih0 _ _ _ _)
   | (with_reducible exact LeO.refl _)
   | (with_reducible exact LeO.none _)
   | (with_reducible refine LeO.ite ?_ ?_)
   | (with_reducible refine LeO.bind ?_ (fun _ => ?_))
   | exact ih0 _ _ _ _
   | exact LeO.none _
   | refine LeO.ite ?_ ?_
   | refine LeO.bind ?_ (fun _ => ?_)
set_option maxHeartbeats 8000000 in
set_option maxRecDepth 100000 in
theorem spec_l05Rise.calls (k : Nat) (A0 : Option Addr) (c0 : Nat) (l0 : List Int) (a1 : Int) (a2 : Int) (r : Bool) (w : World) (hr0 : Kd.C (Kd.int .i64) w A0 l0.length l0) (hc0 : l0.length ≤ c0) (h : spec_l05Rise.f k l0 a1 a2 = some r) :
  Calls Tryz.prog 156 #[.slice A0 l0.length c0, .int .i64 a1, .int .i64 a2] w fun e w' => e = .returned (.bool r) ∧ Drawn0 w w' := by
 have HR0 := Aside0.mk hr0
 have HC0 := Aside0.mk hc0
 clear hr0 hc0
 have H : (spec_l05Rise.l0 k l0 a1 a2 0) = some r := h
 clear h
 have H' := Aside0.mk H
 clear H
 go_enter Tryz.func156, Tryz.ntmps156
 go_wp2
 repeat (go_quiet (fail); try go_wp2)
 go_loopg [7] k (fun kq v7 w' => ∃ (x7_1 : Int), v7 = .int .i64 x7_1 ∧ Aside0 (spec_l05Rise.l0 kq l0 a1 a2 x7_1 = some r) ∧ Aside0 (kq ≤ k) ∧ Drawn0 w w')
 case atStart => exact ⟨(0), (by first | rfl | (simp; done) | (simp [*]; done)), H', ⟨Nat.le_refl _⟩, by repeat (first | exact Drawn0.refl _ | apply Drawn0.step)⟩
 case round =>
  clear H'
  try clear c1
  try clear p2
  obtain ⟨x7_1, rfl, HA, HK1, ⟨m1, rfl⟩⟩ := hrel
  cases gk with
  | zero => exact absurd HA.out (by simp [spec_l05Rise.l0])
  | succ k1 =>
   have H := HA.out
   clear HA
   simp only [spec_l05Rise.l0] at H
   by_cases c4 : x7_1 < (l0.length : Int)
   ·rw [if_pos c4] at H
    have c4b0 : decide (x7_1 < (l0.length : Int)) = true := decide_eq_true c4
    have c4b1 : decide ((l0.length : Int) ≤ x7_1) = false := decide_eq_false (by omega)
    clear c4
    by_cases c5 : 0 ≤ x7_1
    ·rw [if_pos c5] at H
     have c5b0 : decide (0 ≤ x7_1) = true := decide_eq_true c5
     clear c5
     replace H := Option.bind_eq_some_iff.mp H
     obtain ⟨t199, A60, H⟩ := H
     try dsimp only at H
     have A6 := Aside0.mk A60
     clear A60
     by_cases c7 : t199 = true
     ·subst c7
      have H1 : (if x7_1 > 0 then (if 0 ≤ (wrap64 (x7_1 - 1)) then (if (wrap64 (x7_1 - 1)) < (l0.length : Int) then (if (rd l0 (wrap64 (x7_1 - 1))) ≥ (rd l0 x7_1) then (some false) else (spec_l05Rise.l0 k1 l0 a1 a2 (wrap64 (x7_1 + 1)))) else (none)) else (none)) else (spec_l05Rise.l0 k1 l0 a1 a2 (wrap64 (x7_1 + 1)))) = some r := by rw [if_pos rfl] at H; exact H
      clear H
      have H := H1
      clear H1
      by_cases c8 : x7_1 > 0
      ·rw [if_pos c8] at H
       have c8b0 : decide (0 < x7_1) = true := decide_eq_true c8
       clear c8
       obtain ⟨ji9, hji9⟩ : ∃ j_ : Int, (wrap64 (x7_1 - 1)) = j_ := ⟨_, rfl⟩
       replace H : (if 0 ≤ (ji9) then (if (ji9) < (l0.length : Int) then (if (rd l0 (ji9)) ≥ (rd l0 x7_1) then (some false) else (spec_l05Rise.l0 k1 l0 a1 a2 (wrap64 (x7_1 + 1)))) else (none)) else (none)) = some r := by first | (rw [hji9] at H; exact H) | (simp only [hji9] at H ⊢; exact H)
       (try rw [hji9] at A6)
       have hji9w : (IntKind.i64.wrap (x7_1 - 1)) = ji9 := (i64_w _).trans hji9
       by_cases c10 : 0 ≤ (ji9)
       ·rw [if_pos c10] at H
        have c10b0 : decide (0 ≤ (ji9)) = true := decide_eq_true c10
        clear c10
        by_cases c11 : (ji9) < (l0.length : Int)
        ·rw [if_pos c11] at H
         have c11b0 : decide ((ji9) < (l0.length : Int)) = true := decide_eq_true c11
         have c11b1 : decide ((l0.length : Int) ≤ (ji9)) = false := decide_eq_false (by omega)
         clear c11
         by_cases c12 : (rd l0 (ji9)) ≥ (rd l0 x7_1)
         ·rw [if_pos c12] at H
          have c12b0 : decide ((rd l0 x7_1) ≤ (rd l0 (ji9))) = true := decide_eq_true c12
          have c12b1 : decide ((rd l0 (ji9)) < (rd l0 x7_1)) = false := decide_eq_false (by omega)
          clear c12
          obtain rfl := Option.some.inj H
          have p198 : 0 ≤ (x7_1 : Int) := of_decide_eq_true (by first | (with_reducible assumption) | assumption)
          have q198 : x7_1 < (l0.length : Int) := of_decide_eq_true (by first | (with_reducible assumption) | assumption)
          obtain ⟨ad198, e198, hx198_0⟩ := Kd.at_int HR0.out x7_1 p198 q198
          cases e198
          replace p198 := eq_true p198
          replace q198 := eq_true q198
          go_wp2_with (first | (go_at_call 72; (with_reducible refine (spec_l01In.calls (rd l0 x7_1) a1 a2 true _ A6.out).mono ?_); rintro e w' ⟨rfl, ⟨nd, rfl⟩⟩; (try first | exact ⟨rfl, _, World.drewN_drewN _ _ _⟩ | exact ⟨rfl, _, Eq.trans (World.drewN_drewN _ _ _) (congrArg (World.drewN _) (Nat.add_assoc _ _ _))⟩); have p200 : 0 ≤ ((ji9) : Int) := of_decide_eq_true (by first | (with_reducible assumption) | assumption); have q200 : (ji9) < (l0.length : Int) := of_decide_eq_true (by first | (with_reducible assumption) | assumption); obtain ⟨ad200, e200, hx200_0⟩ := Kd.at_int HR0.out (ji9) p200 q200; obtain rfl : ad198 = ad200 := (by injection e200); replace p200 := eq_true p200; replace q200 := eq_true q200; have p201 : 0 ≤ (x7_1 : Int) := of_decide_eq_true (by first | (with_reducible assumption) | assumption); have q201 : x7_1 < (l0.length : Int) := of_decide_eq_true (by first | (with_reducible assumption) | assumption); obtain ⟨ad201, e201, hx201_0⟩ := Kd.at_int HR0.out x7_1 p201 q201; obtain rfl : ad198 = ad201 := (by injection e201); replace p201 := eq_true p201; replace q201 := eq_true q201))
          repeat (go_quiet (first | (go_at_call 72; (with_reducible refine (spec_l01In.calls (rd l0 x7_1) a1 a2 true _ A6.out).mono ?_); rintro e w' ⟨rfl, ⟨nd, rfl⟩⟩; (try first | exact ⟨rfl, _, World.drewN_drewN _ _ _⟩ | exact ⟨rfl, _, Eq.trans (World.drewN_drewN _ _ _) (congrArg (World.drewN _) (Nat.add_assoc _ _ _))⟩); have p200 : 0 ≤ ((ji9) : Int) := of_decide_eq_true (by first | (with_reducible assumption) | assumption); have q200 : (ji9) < (l0.length : Int) := of_decide_eq_true (by first | (with_reducible assumption) | assumption); obtain ⟨ad200, e200, hx200_0⟩ := Kd.at_int HR0.out (ji9) p200 q200; obtain rfl : ad198 = ad200 := (by injection e200); replace p200 := eq_true p200; replace q200 := eq_true q200; have p201 : 0 ≤ (x7_1 : Int) := of_decide_eq_true (by first | (with_reducible assumption) | assumption); have q201 : x7_1 < (l0.length : Int) := of_decide_eq_true (by first | (with_reducible assumption) | assumption); obtain ⟨ad201, e201, hx201_0⟩ := Kd.at_int HR0.out x7_1 p201 q201; obtain rfl : ad198 = ad201 := (by injection e201); replace p201 := eq_true p201; replace q201 := eq_true q201)); try go_wp2_with (first | (go_at_call 72; (with_reducible refine (spec_l01In.calls (rd l0 x7_1) a1 a2 true _ A6.out).mono ?_); rintro e w' ⟨rfl, ⟨nd, rfl⟩⟩; (try first | exact ⟨rfl, _, World.drewN_drewN _ _ _⟩ | exact ⟨rfl, _, Eq.trans (World.drewN_drewN _ _ _) (congrArg (World.drewN _) (Nat.add_assoc _ _ _))⟩); have p200 : 0 ≤ ((ji9) : Int) := of_decide_eq_true (by first | (with_reducible assumption) | assumption); have q200 : (ji9) < (l0.length : Int) := of_decide_eq_true (by first | (with_reducible assumption) | assumption); obtain ⟨ad200, e200, hx200_0⟩ := Kd.at_int HR0.out (ji9) p200 q200; obtain rfl : ad198 = ad200 := (by injection e200); replace p200 := eq_true p200; replace q200 := eq_true q200; have p201 : 0 ≤ (x7_1 : Int) := of_decide_eq_true (by first | (with_reducible assumption) | assumption); have q201 : x7_1 < (l0.length : Int) := of_decide_eq_true (by first | (with_reducible assumption) | assumption); obtain ⟨ad201, e201, hx201_0⟩ := Kd.at_int HR0.out x7_1 p201 q201; obtain rfl : ad198 = ad201 := (by injection e201); replace p201 := eq_true p201; replace q201 := eq_true q201)))
          go_ret
          exact ⟨by first | rfl | (simp; done) | (simp only [← hji9] <;> (first | rfl | simp)) | (simp [*]; done), by repeat (first | exact Drawn0.refl _ | apply Drawn0.step)⟩
         ·rw [if_neg c12] at H
          have c12b0 : decide ((rd l0 x7_1) ≤ (rd l0 (ji9))) = false := decide_eq_false c12
          have c12b1 : decide ((rd l0 (ji9)) < (rd l0 x7_1)) = true := decide_eq_true (by omega)
          clear c12
          have H' := Aside0.mk H
          clear H
          have p198 : 0 ≤ (x7_1 : Int) := of_decide_eq_true (by first | (with_reducible assumption) | assumption)
          have q198 : x7_1 < (l0.length : Int) := of_decide_eq_true (by first | (with_reducible assumption) | assumption)
          obtain ⟨ad198, e198, hx198_0⟩ := Kd.at_int HR0.out x7_1 p198 q198
          cases e198
          replace p198 := eq_true p198
          replace q198 := eq_true q198
          go_wp2_with (first | (go_at_call 72; (with_reducible refine (spec_l01In.calls (rd l0 x7_1) a1 a2 true _ A6.out).mono ?_); rintro e w' ⟨rfl, ⟨nd, rfl⟩⟩; (try first | exact ⟨rfl, _, World.drewN_drewN _ _ _⟩ | exact ⟨rfl, _, Eq.trans (World.drewN_drewN _ _ _) (congrArg (World.drewN _) (Nat.add_assoc _ _ _))⟩); have p200 : 0 ≤ ((ji9) : Int) := of_decide_eq_true (by first | (with_reducible assumption) | assumption); have q200 : (ji9) < (l0.length : Int) := of_decide_eq_true (by first | (with_reducible assumption) | assumption); obtain ⟨ad200, e200, hx200_0⟩ := Kd.at_int HR0.out (ji9) p200 q200; obtain rfl : ad198 = ad200 := (by injection e200); replace p200 := eq_true p200; replace q200 := eq_true q200; have p201 : 0 ≤ (x7_1 : Int) := of_decide_eq_true (by first | (with_reducible assumption) | assumption); have q201 : x7_1 < (l0.length : Int) := of_decide_eq_true (by first | (with_reducible assumption) | assumption); obtain ⟨ad201, e201, hx201_0⟩ := Kd.at_int HR0.out x7_1 p201 q201; obtain rfl : ad198 = ad201 := (by injection e201); replace p201 := eq_true p201; replace q201 := eq_true q201))
          repeat (go_quiet (first | (go_at_call 72; (with_reducible refine (spec_l01In.calls (rd l0 x7_1) a1 a2 true _ A6.out).mono ?_); rintro e w' ⟨rfl, ⟨nd, rfl⟩⟩; (try first | exact ⟨rfl, _, World.drewN_drewN _ _ _⟩ | exact ⟨rfl, _, Eq.trans (World.drewN_drewN _ _ _) (congrArg (World.drewN _) (Nat.add_assoc _ _ _))⟩); have p200 : 0 ≤ ((ji9) : Int) := of_decide_eq_true (by first | (with_reducible assumption) | assumption); have q200 : (ji9) < (l0.length : Int) := of_decide_eq_true (by first | (with_reducible assumption) | assumption); obtain ⟨ad200, e200, hx200_0⟩ := Kd.at_int HR0.out (ji9) p200 q200; obtain rfl : ad198 = ad200 := (by injection e200); replace p200 := eq_true p200; replace q200 := eq_true q200; have p201 : 0 ≤ (x7_1 : Int) := of_decide_eq_true (by first | (with_reducible assumption) | assumption); have q201 : x7_1 < (l0.length : Int) := of_decide_eq_true (by first | (with_reducible assumption) | assumption); obtain ⟨ad201, e201, hx201_0⟩ := Kd.at_int HR0.out x7_1 p201 q201; obtain rfl : ad198 = ad201 := (by injection e201); replace p201 := eq_true p201; replace q201 := eq_true q201)); try go_wp2_with (first | (go_at_call 72; (with_reducible refine (spec_l01In.calls (rd l0 x7_1) a1 a2 true _ A6.out).mono ?_); rintro e w' ⟨rfl, ⟨nd, rfl⟩⟩; (try first | exact ⟨rfl, _, World.drewN_drewN _ _ _⟩ | exact ⟨rfl, _, Eq.trans (World.drewN_drewN _ _ _) (congrArg (World.drewN _) (Nat.add_assoc _ _ _))⟩); have p200 : 0 ≤ ((ji9) : Int) := of_decide_eq_true (by first | (with_reducible assumption) | assumption); have q200 : (ji9) < (l0.length : Int) := of_decide_eq_true (by first | (with_reducible assumption) | assumption); obtain ⟨ad200, e200, hx200_0⟩ := Kd.at_int HR0.out (ji9) p200 q200; obtain rfl : ad198 = ad200 := (by injection e200); replace p200 := eq_true p200; replace q200 := eq_true q200; have p201 : 0 ≤ (x7_1 : Int) := of_decide_eq_true (by first | (with_reducible assumption) | assumption); have q201 : x7_1 < (l0.length : Int) := of_decide_eq_true (by first | (with_reducible assumption) | assumption); obtain ⟨ad201, e201, hx201_0⟩ := Kd.at_int HR0.out x7_1 p201 q201; obtain rfl : ad198 = ad201 := (by injection e201); replace p201 := eq_true p201; replace q201 := eq_true q201)))
          go_roundg k1
          case measure => have := HK1.out; omega
          case rel => exact ⟨(wrap64 (x7_1 + 1)), (by first | rfl | (simp; done) | (simp [*]; done)), H', ⟨by have := HK1.out; omega⟩, by repeat (first | exact Drawn0.refl _ | apply Drawn0.step)⟩
        ·rw [if_neg c11] at H
         exact absurd H (by simp)
       ·rw [if_neg c10] at H
        exact absurd H (by simp)
      ·rw [if_neg c8] at H
       have c8b0 : decide (0 < x7_1) = false := decide_eq_false c8
       clear c8
       have H' := Aside0.mk H
       clear H
       have p198 : 0 ≤ (x7_1 : Int) := of_decide_eq_true (by first | (with_reducible assumption) | assumption)
       have q198 : x7_1 < (l0.length : Int) := of_decide_eq_true (by first | (with_reducible assumption) | assumption)
       obtain ⟨ad198, e198, hx198_0⟩ := Kd.at_int HR0.out x7_1 p198 q198
       cases e198
       replace p198 := eq_true p198
       replace q198 := eq_true q198
       go_wp2_with (first | (go_at_call 72; (with_reducible refine (spec_l01In.calls (rd l0 x7_1) a1 a2 true _ A6.out).mono ?_); rintro e w' ⟨rfl, ⟨nd, rfl⟩⟩; (try first | exact ⟨rfl, _, World.drewN_drewN _ _ _⟩ | exact ⟨rfl, _, Eq.trans (World.drewN_drewN _ _ _) (congrArg (World.drewN _) (Nat.add_assoc _ _ _))⟩)))
       repeat (go_quiet (first | (go_at_call 72; (with_reducible refine (spec_l01In.calls (rd l0 x7_1) a1 a2 true _ A6.out).mono ?_); rintro e w' ⟨rfl, ⟨nd, rfl⟩⟩; (try first | exact ⟨rfl, _, World.drewN_drewN _ _ _⟩ | exact ⟨rfl, _, Eq.trans (World.drewN_drewN _ _ _) (congrArg (World.drewN _) (Nat.add_assoc _ _ _))⟩))); try go_wp2_with (first | (go_at_call 72; (with_reducible refine (spec_l01In.calls (rd l0 x7_1) a1 a2 true _ A6.out).mono ?_); rintro e w' ⟨rfl, ⟨nd, rfl⟩⟩; (try first | exact ⟨rfl, _, World.drewN_drewN _ _ _⟩ | exact ⟨rfl, _, Eq.trans (World.drewN_drewN _ _ _) (congrArg (World.drewN _) (Nat.add_assoc _ _ _))⟩))))
       go_roundg k1
       case measure => have := HK1.out; omega
       case rel => exact ⟨(wrap64 (x7_1 + 1)), (by first | rfl | (simp; done) | (simp [*]; done)), H', ⟨by have := HK1.out; omega⟩, by repeat (first | exact Drawn0.refl _ | apply Drawn0.step)⟩
     ·replace c7 := Bool.eq_false_iff.mpr c7
      subst c7
      have H1 : (some false) = some r := by rw [if_neg (show ¬ (false = true) by decide)] at H; exact H
      clear H
      have H := H1
      clear H1
      obtain rfl := Option.some.inj H
      have p198 : 0 ≤ (x7_1 : Int) := of_decide_eq_true (by first | (with_reducible assumption) | assumption)
      have q198 : x7_1 < (l0.length : Int) := of_decide_eq_true (by first | (with_reducible assumption) | assumption)
      obtain ⟨ad198, e198, hx198_0⟩ := Kd.at_int HR0.out x7_1 p198 q198
      cases e198
      replace p198 := eq_true p198
      replace q198 := eq_true q198
      go_wp2_with (first | (go_at_call 72; (with_reducible refine (spec_l01In.calls (rd l0 x7_1) a1 a2 false _ A6.out).mono ?_); rintro e w' ⟨rfl, ⟨nd, rfl⟩⟩; (try first | exact ⟨rfl, _, World.drewN_drewN _ _ _⟩ | exact ⟨rfl, _, Eq.trans (World.drewN_drewN _ _ _) (congrArg (World.drewN _) (Nat.add_assoc _ _ _))⟩)))
      repeat (go_quiet (first | (go_at_call 72; (with_reducible refine (spec_l01In.calls (rd l0 x7_1) a1 a2 false _ A6.out).mono ?_); rintro e w' ⟨rfl, ⟨nd, rfl⟩⟩; (try first | exact ⟨rfl, _, World.drewN_drewN _ _ _⟩ | exact ⟨rfl, _, Eq.trans (World.drewN_drewN _ _ _) (congrArg (World.drewN _) (Nat.add_assoc _ _ _))⟩))); try go_wp2_with (first | (go_at_call 72; (with_reducible refine (spec_l01In.calls (rd l0 x7_1) a1 a2 false _ A6.out).mono ?_); rintro e w' ⟨rfl, ⟨nd, rfl⟩⟩; (try first | exact ⟨rfl, _, World.drewN_drewN _ _ _⟩ | exact ⟨rfl, _, Eq.trans (World.drewN_drewN _ _ _) (congrArg (World.drewN _) (Nat.add_assoc _ _ _))⟩))))
      go_ret
      exact ⟨by first | rfl | (simp; done) | (simp [*]; done), by repeat (first | exact Drawn0.refl _ | apply Drawn0.step)⟩
    ·rw [if_neg c5] at H
     exact absurd H (by simp)
   ·rw [if_neg c4] at H
    have c4b0 : decide (x7_1 < (l0.length : Int)) = false := decide_eq_false c4
    have c4b1 : decide ((l0.length : Int) ≤ x7_1) = true := decide_eq_true (by omega)
    clear c4
    obtain rfl := Option.some.inj H
    go_wp2
    repeat (go_quiet (fail); try go_wp2)
    go_ret
    exact ⟨by first | rfl | (simp; done) | (simp [*]; done), by repeat (first | exact Drawn0.refl _ | apply Drawn0.step)⟩

/-! ### spec_ConfOk: function 141 -/
def spec_ConfOk.f (k : Nat) (l0 : List Int) : Option (Bool) := (spec_l01In.f (l0.length : Int) 1 4).bind fun t202 => (if t202 = true then ((spec_l05Rise.f k l0 1 4).bind fun t203 => (some t203)) else (some false))
theorem spec_ConfOk.mono : ∀ a0 k, LeO (spec_ConfOk.f k a0) (spec_ConfOk.f (k + 1) a0) := by
 intro a0 k
 unfold spec_ConfOk.f
 repeat' first
   | (with_reducible exact spec_l05Rise.mono _ _ _ _)
   | (with_reducible exact LeO.refl _)
   | (with_reducible exact LeO.none _)
   | (with_reducible refine LeO.ite ?_ ?_)
   | (with_reducible refine LeO.bind ?_ (fun _ => ?_))
   | exact spec_l05Rise.mono _ _ _ _
   | exact LeO.none _
   | refine LeO.ite ?_ ?_
   | refine LeO.bind ?_ (fun _ => ?_)
set_option maxHeartbeats 8000000 in
set_option maxRecDepth 100000 in
theorem spec_ConfOk.calls (k : Nat) (A0 : Option Addr) (c0 : Nat) (l0 : List Int) (r : Bool) (w : World) (hr0 : Kd.C (Kd.int .i64) w A0 l0.length l0) (hc0 : l0.length ≤ c0) (h : spec_ConfOk.f k l0 = some r) :
  Calls Tryz.prog 141 #[.slice A0 l0.length c0] w fun e w' => e = .returned (.bool r) ∧ Drawn0 w w' := by
 have HR0 := Aside0.mk hr0
 have HC0 := Aside0.mk hc0
 clear hr0 hc0
 have H : ((spec_l01In.f (l0.length : Int) 1 4).bind fun t202 => (if t202 = true then ((spec_l05Rise.f k l0 1 4).bind fun t203 => (some t203)) else (some false))) = some r := h
 clear h
 replace H := Option.bind_eq_some_iff.mp H
 obtain ⟨t202, A20, H⟩ := H
 try dsimp only at H
 have A2 := Aside0.mk A20
 clear A20
 by_cases c3 : t202 = true
 ·subst c3
  have H1 : ((spec_l05Rise.f k l0 1 4).bind fun t203 => (some t203)) = some r := by rw [if_pos rfl] at H; exact H
  clear H
  have H := H1
  clear H1
  replace H := Option.bind_eq_some_iff.mp H
  obtain ⟨t203, A40, H⟩ := H
  try dsimp only at H
  have A4 := Aside0.mk A40
  clear A40
  obtain rfl := Option.some.inj H
  go_enter Tryz.func141, Tryz.ntmps141
  go_wp2_with (first | ((with_reducible refine gate_callee (f := 72) rfl ?_); refine goesL_ (some 5) rfl rfl Tryz.func72 (by kernel_rfl) rfl #[.int .i64 (l0.length : Int), .int .i64 1, .int .i64 4] rfl zr ?_; (with_reducible refine (spec_l01In.calls (l0.length : Int) 1 4 true _ A2.out).mono ?_); rintro e w' ⟨rfl, ⟨nd, rfl⟩⟩; refine ⟨_, rfl, ?_⟩) | (go_at_call 156; (with_reducible refine (spec_l05Rise.calls k _ _ l0 1 4 t203 _ ?side1 ?side2 A4.out).mono ?_); (case side1 => repeat (first | exact HR0.out | (with_reducible refine Kd.C_alloc ?_ _) | (with_reducible refine Kd.C_drewN ?_ _) | (with_reducible refine Kd.C_drew ?_))); (case side2 => exact HC0.out); rintro e w' ⟨rfl, ⟨nd, rfl⟩⟩))
  go_ret
  exact ⟨by first | rfl | (simp; done) | (simp [*]; done), by repeat (first | exact Drawn0.refl _ | apply Drawn0.step)⟩
 ·replace c3 := Bool.eq_false_iff.mpr c3
  subst c3
  have H1 : (some false) = some r := by rw [if_neg (show ¬ (false = true) by decide)] at H; exact H
  clear H
  have H := H1
  clear H1
  obtain rfl := Option.some.inj H
  go_enter Tryz.func141, Tryz.ntmps141
  go_wp2_with (first | ((with_reducible refine gate_callee (f := 72) rfl ?_); refine goesL_ (some 5) rfl rfl Tryz.func72 (by kernel_rfl) rfl #[.int .i64 (l0.length : Int), .int .i64 1, .int .i64 4] rfl zr ?_; (with_reducible refine (spec_l01In.calls (l0.length : Int) 1 4 false _ A2.out).mono ?_); rintro e w' ⟨rfl, ⟨nd, rfl⟩⟩; refine ⟨_, rfl, ?_⟩))
  go_ret
  exact ⟨by first | rfl | (simp; done) | (simp [*]; done), by repeat (first | exact Drawn0.refl _ | apply Drawn0.step)⟩

/-! ### spec_ConfText: function 94 -/
def spec_ConfText.l0 : Nat → List Int → List Int → Int → Option (ByteArray × Bool)
 | 0, _, _, _ => none
 | k + 1, x0, x4, x5 => if x5 < (x0.length : Int) then (if 0 ≤ x5 then (if x4.length < 140737488355328 then (spec_ConfText.l0 k x0 (x4 ++ [(rd x0 x5) % 256]) (wrap64 (x5 + 1))) else (none)) else (none)) else (some (strOfNums x4, true))
def spec_ConfText.f (k : Nat) (l0 : List Int) : Option (ByteArray × Bool) := (spec_ConfOk.f k l0).bind fun t204 => (if t204 = true then (spec_ConfText.l0 k l0 (([] : List Int)) 0) else (some ((⟨#[]⟩ : ByteArray), false)))
theorem spec_ConfText.mono_l : ∀ k, (∀ y0 y1 y2, LeO (spec_ConfText.l0 k y0 y1 y2) (spec_ConfText.l0 (k + 1) y0 y1 y2))
 | 0 => fun _ _ _ r h => by simp [spec_ConfText.l0] at h
 | k + 1 => by
  have ih0 := spec_ConfText.mono_l k
  ·intro y0 y1 y2
   unfold spec_ConfText.l0
   repeat' first
   | (with_reducible exact ih0 _ _ _)
   | (with_reducible exact spec_ConfOk.mono _ _)
   | (with_reducible exact LeO.refl _)
   | (with_reducible exact LeO.none _)
   | (with_reducible refine LeO.ite ?_ ?_)
   | (with_reducible refine LeO.bind ?_ (fun _ => ?_))
   | exact ih0 _ _ _
   | exact spec_ConfOk.mono _ _
   | exact LeO.none _
   | refine LeO.ite ?_ ?_
   | refine LeO.bind ?_ (fun _ => ?_)
theorem spec_ConfText.mono : ∀ a0 k, LeO (spec_ConfText.f k a0) (spec_ConfText.f (k + 1) a0) := by
 intro a0 k
 have ih0 := spec_ConfText.mono_l k
 unfold spec_ConfText.f
 repeat' first
   | (with_reducible exact ih0 _ _ _)
   | (with_reducible exact spec_ConfOk.mono _ _)
   | (with_reducible exact LeO.refl _)
   | (with_reducible exact LeO.none _)
   | (with_reducible refine LeO.ite ?_ ?_)
   | (with_reducible refine LeO.bind ?_ (fun _ => ?_))
   | exact ih0 _ _ _
   | exact spec_ConfOk.mono _ _
   | exact LeO.none _
   | refine LeO.ite ?_ ?_
   | refine LeO.bind ?_ (fun _ => ?_)
set_option maxHeartbeats 8000000 in
set_option maxRecDepth 100000 in
theorem spec_ConfText.calls (k : Nat) (A0 : Option Addr) (c0 : Nat) (l0 : List Int) (r1 : ByteArray) (r2 : Bool) (w : World) (hr0 : Kd.C (Kd.int .i64) w A0 l0.length l0) (hc0 : l0.length ≤ c0) (h : spec_ConfText.f k l0 = some (r1, r2)) :
  Calls Tryz.prog 94 #[.slice A0 l0.length c0] w fun e w' => e = .returned (.tuple #[.string r1, .bool r2]) ∧ Below w.heap.size w w' := by
 have HR0 := Aside0.mk hr0
 have HC0 := Aside0.mk hc0
 clear hr0 hc0
 have HB := Aside0.mk (Below.refl w.heap.size w)
 have H : ((spec_ConfOk.f k l0).bind fun t204 => (if t204 = true then (spec_ConfText.l0 k l0 (([] : List Int)) 0) else (some ((⟨#[]⟩ : ByteArray), false)))) = some (r1, r2) := h
 clear h
 replace H := Option.bind_eq_some_iff.mp H
 obtain ⟨t204, A20, H⟩ := H
 try dsimp only at H
 have A2 := Aside0.mk A20
 clear A20
 by_cases c3 : t204 = true
 ·subst c3
  have H1 : (spec_ConfText.l0 k l0 (([] : List Int)) 0) = some (r1, r2) := by rw [if_pos rfl] at H; exact H
  clear H
  have H := H1
  clear H1
  obtain ⟨y205, hy205⟩ : ∃ y_ : List Int, y_ = (([] : List Int)) := ⟨_, rfl⟩
  replace H : (spec_ConfText.l0 k l0 y205 0) = some (r1, r2) := by first | (rw [hy205]; with_reducible exact H) | (have H2_ := (Option.bind_some _ _).symm.trans H; rw [hy205]; with_reducible exact H2_) | (have H2_ := (Option.bind_some _ _).symm.trans H; with_reducible exact H2_) | with_reducible exact H | (rw [hy205]; exact H) | exact H
  have Ny205 := Aside0.mk hy205
  clear hy205
  have H' := Aside0.mk H
  clear H
  go_enter Tryz.func94, Tryz.ntmps94
  go_wp2_with (first | ((with_reducible refine gate_callee (f := 141) rfl ?_); refine goesL_ (some 7) rfl rfl Tryz.func141 (by kernel_rfl) rfl #[.slice A0 l0.length c0] rfl zr ?_; (with_reducible refine (spec_ConfOk.calls k _ _ l0 true _ ?side1 ?side2 A2.out).mono ?_); (case side1 => repeat (first | exact HR0.out | (with_reducible refine Kd.C_alloc ?_ _) | (with_reducible refine Kd.C_drewN ?_ _) | (with_reducible refine Kd.C_drew ?_))); (case side2 => exact HC0.out); rintro e w' ⟨rfl, ⟨nd, rfl⟩⟩; refine ⟨_, rfl, ?_⟩) | ((with_reducible refine gate_dst (N := 9) rfl ?_); refine Kd.R_lit (Kd.int .u8) _ 5 ?hg (N := 9) ?hd (xs := ([] : List Int)) (inner := []) (ok := fun _ => True) (okp := fun _ => True) ?hr ?hp (fun _ hk => hk) trivial (Below.refl _ _) (Nat.le_refl _) (by simp) ?_; (case hd => rfl); (case hg => rfl); (case hr => first | (go_simp; done) | (go_simp; rfl)); (case hp => exact (Reps.none _ _)); intro v206 w4 ho5 hb hg_ hnew_; clear hg_ hnew_; (first | rw [← Ny205.out] at ho5 | (simp only [Int.reduceToNat] at ho5; rw [← Ny205.out] at ho5)); have HO207 := am (Kd.R_lower ho5 (below_size (zb0 HB.out))); replace HB := am (below_step (zb0 HB.out) hb); clear hb ho5))
  go_loopg [4, 5] k (fun kq v4 v5 w' => ∃ (x4_1 : List Int) (x5_1 : Int), v5 = .int .i64 x5_1 ∧ Aside0 (spec_ConfText.l0 kq l0 x4_1 x5_1 = some (r1, r2)) ∧ Aside0 (kq ≤ k) ∧ Aside0 (Kd.R (Kd.int .u8) 5 w' w.heap.size (fun _ => True) v4 x4_1) ∧ Aside0 (Below w.heap.size w w'))
  case atStart => exact ⟨(y205), (0), (by first | rfl | (simp; done) | (simp [*]; done)), H', ⟨Nat.le_refl _⟩, ⟨rx HO207.out⟩, ⟨zb0 HB.out⟩⟩
  case round =>
   clear H'
   try clear c1
   try clear p2
   try clear c3
   obtain ⟨x4_1, x5_1, rfl, HA, HK1, HO_4, HB⟩ := hrel
   cases gk with
   | zero => exact absurd HA.out (by simp [spec_ConfText.l0])
   | succ k1 =>
    have H := HA.out
    clear HA
    simp only [spec_ConfText.l0] at H
    by_cases c6 : x5_1 < (l0.length : Int)
    ·rw [if_pos c6] at H
     have c6b0 : decide (x5_1 < (l0.length : Int)) = true := decide_eq_true c6
     have c6b1 : decide ((l0.length : Int) ≤ x5_1) = false := decide_eq_false (by omega)
     clear c6
     by_cases c7 : 0 ≤ x5_1
     ·rw [if_pos c7] at H
      have c7b0 : decide (0 ≤ x5_1) = true := decide_eq_true c7
      clear c7
      by_cases c8 : x4_1.length < 140737488355328
      ·rw [if_pos c8] at H
       have LMc8 := Aside0.mk c8
       clear c8
       obtain ⟨y209, hy209⟩ : ∃ y_ : List Int, y_ = (x4_1 ++ [(rd l0 x5_1) % 256]) := ⟨_, rfl⟩
       replace H : (spec_ConfText.l0 k1 l0 y209 (wrap64 (x5_1 + 1))) = some (r1, r2) := by first | (rw [hy209]; with_reducible exact H) | (have H2_ := (Option.bind_some _ _).symm.trans H; rw [hy209]; with_reducible exact H2_) | (have H2_ := (Option.bind_some _ _).symm.trans H; with_reducible exact H2_) | with_reducible exact H | (rw [hy209]; exact H) | exact H
       have Ny209 := Aside0.mk hy209
       clear hy209
       have H' := Aside0.mk H
       clear H
       have p208 : 0 ≤ (x5_1 : Int) := of_decide_eq_true (by first | (with_reducible assumption) | assumption)
       have q208 : x5_1 < (l0.length : Int) := of_decide_eq_true (by first | (with_reducible assumption) | assumption)
       obtain ⟨ad208, e208, hx208_0⟩ := Kd.at_int HR0.out x5_1 p208 q208
       cases e208
       replace hx208_0 := (HB.out.cell (World.block_lt_of_cell? w _ hx208_0)).trans hx208_0
       replace p208 := eq_true p208
       replace q208 := eq_true q208
       go_wp2_with (first | ((with_reducible refine gate_builtin (b := .append) (xs := #[.tmp 16, .tmp 22]) rfl ?_); at_builtin; refine Kd.R_append (Kd.int .u8) (w0 := w) w.heap.size rfl (.tmp 16) (.tmp 22) 95 5 (.int .u8 0) 1 rfl Tryz.underlying95 info5 rfl (by decide) (by omega) u4 x4_1 ((rd l0 x5_1) % 256) [.int .u8 ((rd l0 x5_1) % 256)] (fun _ => True) (fun _ => False) rfl rfl ?aP (fun _ hk => hk.elim) ?aF ?aO ?aB ?aS ?aL ?_; (case aP => exact rfl); (case aB => exact (zb0 HB.out)); (case aF => exact (fun _ _ => trivial)); (case aO => exact (rx HO_4.out)); (case aS => exact (below_size (zb0 HB.out))); (case aL => have := LMc8.out; omega); intro v210 w9 ho hb hg hat; rw [← Ny209.out] at ho; have HO211 := am (ho); replace HB := am (hb); clear HO_4; clear ho hb hg hat))
       go_roundg k1
       case measure => have := HK1.out; omega
       case rel => exact ⟨(y209), (wrap64 (x5_1 + 1)), (by first | rfl | (simp; done) | (simp [*]; done)), H', ⟨by have := HK1.out; omega⟩, ⟨rx HO211.out⟩, ⟨zb0 HB.out⟩⟩
      ·rw [if_neg c8] at H
       exact absurd H (by simp)
     ·rw [if_neg c7] at H
      exact absurd H (by simp)
    ·rw [if_neg c6] at H
     have c6b0 : decide (x5_1 < (l0.length : Int)) = false := decide_eq_false c6
     have c6b1 : decide ((l0.length : Int) ≤ x5_1) = true := decide_eq_true (by omega)
     clear c6
     simp only [Option.some.injEq, Prod.mk.injEq] at H
     obtain ⟨rfl, rfl⟩ := H
     have hcv10 := own_string (P := Tryz.prog) Tryz.underlying95 Tryz.underlying5 Tryz.underlying9 (Kd.own_of_R HO_4.out)
     go_wp2
     go_ret2
     exact ⟨by first | rfl | (simp [errW_none, errW_some] <;> rfl) | (simp [*, errW_none, errW_some] <;> rfl), zb0 HB.out⟩
 ·replace c3 := Bool.eq_false_iff.mpr c3
  subst c3
  have H1 : (some ((⟨#[]⟩ : ByteArray), false)) = some (r1, r2) := by rw [if_neg (show ¬ (false = true) by decide)] at H; exact H
  clear H
  have H := H1
  clear H1
  simp only [Option.some.injEq, Prod.mk.injEq] at H
  obtain ⟨rfl, rfl⟩ := H
  go_enter Tryz.func94, Tryz.ntmps94
  go_wp2_with (first | ((with_reducible refine gate_callee (f := 141) rfl ?_); refine goesL_ (some 7) rfl rfl Tryz.func141 (by kernel_rfl) rfl #[.slice A0 l0.length c0] rfl zr ?_; (with_reducible refine (spec_ConfOk.calls k _ _ l0 false _ ?side1 ?side2 A2.out).mono ?_); (case side1 => repeat (first | exact HR0.out | (with_reducible refine Kd.C_alloc ?_ _) | (with_reducible refine Kd.C_drewN ?_ _) | (with_reducible refine Kd.C_drew ?_))); (case side2 => exact HC0.out); rintro e w' ⟨rfl, ⟨nd, rfl⟩⟩; refine ⟨_, rfl, ?_⟩))
  go_ret2
  exact ⟨by first | rfl | (simp [errW_none, errW_some] <;> rfl) | (simp [*, errW_none, errW_some] <;> rfl), zb0 HB.out⟩

/-! ### spec_l01Var: function 95 -/
def spec_l01Var.l0 : Nat → Int → List Int → Option (ByteArray)
 | 0, _, _ => none
 | k + 1, x0, x3 => if x0 > 127 then (if x3.length < 140737488355328 then (spec_l01Var.l0 k (wrap64 (Int.tdiv x0 128)) (x3 ++ [(wrap64 ((Int.tmod x0 128) + 128)) % 256])) else (none)) else (if x3.length < 140737488355328 then (some (strOfNums (x3 ++ [(x0) % 256]))) else (none))
def spec_l01Var.f (k : Nat) (a0 : Int) : Option (ByteArray) := spec_l01Var.l0 k a0 (([] : List Int))
theorem spec_l01Var.mono_l : ∀ k, (∀ y0 y1, LeO (spec_l01Var.l0 k y0 y1) (spec_l01Var.l0 (k + 1) y0 y1))
 | 0 => fun _ _ r h => by simp [spec_l01Var.l0] at h
 | k + 1 => by
  have ih0 := spec_l01Var.mono_l k
  ·intro y0 y1
   unfold spec_l01Var.l0
   repeat' first
   | (with_reducible exact ih0 _ _)
   | (with_reducible exact LeO.refl _)
   | (with_reducible exact LeO.none _)
   | (with_reducible refine LeO.ite ?_ ?_)
   | (with_reducible refine LeO.bind ?_ (fun _ => ?_))
   | exact ih0 _ _
   | exact LeO.none _
   | refine LeO.ite ?_ ?_
   | refine LeO.bind ?_ (fun _ => ?_)
theorem spec_l01Var.mono : ∀ a0 k, LeO (spec_l01Var.f k a0) (spec_l01Var.f (k + 1) a0) := by
 intro a0 k
 have ih0 := spec_l01Var.mono_l k
 unfold spec_l01Var.f
 repeat' first
   | (with_reducible exact ih0 _ _)
   | (with_reducible exact LeO.refl _)
   | (with_reducible exact LeO.none _)
   | (with_reducible refine LeO.ite ?_ ?_)
   | (with_reducible refine LeO.bind ?_ (fun _ => ?_))
   | exact ih0 _ _
   | exact LeO.none _
   | refine LeO.ite ?_ ?_
   | refine LeO.bind ?_ (fun _ => ?_)
set_option maxHeartbeats 8000000 in
set_option maxRecDepth 100000 in
theorem spec_l01Var.calls (k : Nat) (a0 : Int) (r : ByteArray) (w : World) (h : spec_l01Var.f k a0 = some r) :
  Calls Tryz.prog 95 #[.int .i64 a0] w fun e w' => e = .returned (.string r) ∧ Below w.heap.size w w' := by
 have HB := Aside0.mk (Below.refl w.heap.size w)
 have H : (spec_l01Var.l0 k a0 (([] : List Int))) = some r := h
 clear h
 obtain ⟨y212, hy212⟩ : ∃ y_ : List Int, y_ = (([] : List Int)) := ⟨_, rfl⟩
 replace H : (spec_l01Var.l0 k a0 y212) = some r := by first | (rw [hy212]; with_reducible exact H) | (have H2_ := (Option.bind_some _ _).symm.trans H; rw [hy212]; with_reducible exact H2_) | (have H2_ := (Option.bind_some _ _).symm.trans H; with_reducible exact H2_) | with_reducible exact H | (rw [hy212]; exact H) | exact H
 have Ny212 := Aside0.mk hy212
 clear hy212
 have H' := Aside0.mk H
 clear H
 go_enter Tryz.func95, Tryz.ntmps95
 go_wp2_with (first | ((with_reducible refine gate_dst (N := 4) rfl ?_); refine Kd.R_lit (Kd.int .u8) _ 5 ?hg (N := 4) ?hd (xs := ([] : List Int)) (inner := []) (ok := fun _ => True) (okp := fun _ => True) ?hr ?hp (fun _ hk => hk) trivial (Below.refl _ _) (Nat.le_refl _) (by simp) ?_; (case hd => rfl); (case hg => rfl); (case hr => first | (go_simp; done) | (go_simp; rfl)); (case hp => exact (Reps.none _ _)); intro v213 w2 ho3 hb hg_ hnew_; clear hg_ hnew_; (first | rw [← Ny212.out] at ho3 | (simp only [Int.reduceToNat] at ho3; rw [← Ny212.out] at ho3)); have HO214 := am (Kd.R_lower ho3 (below_size (zb0 HB.out))); replace HB := am (below_step (zb0 HB.out) hb); clear hb ho3))
 go_loopg [0, 3] k (fun kq v0 v3 w' => ∃ (x0_1 : Int) (x3_1 : List Int), v0 = .int .i64 x0_1 ∧ Aside0 (spec_l01Var.l0 kq x0_1 x3_1 = some r) ∧ Aside0 (kq ≤ k) ∧ Aside0 (Kd.R (Kd.int .u8) 5 w' w.heap.size (fun _ => True) v3 x3_1) ∧ Aside0 (Below w.heap.size w w'))
 case atStart => exact ⟨(a0), (y212), (by first | rfl | (simp; done) | (simp [*]; done)), H', ⟨Nat.le_refl _⟩, ⟨rx HO214.out⟩, ⟨zb0 HB.out⟩⟩
 case round =>
  clear H'
  try clear p2
  obtain ⟨x0_1, x3_1, rfl, HA, HK1, HO_3, HB⟩ := hrel
  cases gk with
  | zero => exact absurd HA.out (by simp [spec_l01Var.l0])
  | succ k1 =>
   have H := HA.out
   clear HA
   simp only [spec_l01Var.l0] at H
   by_cases c4 : x0_1 > 127
   ·rw [if_pos c4] at H
    have c4b0 : decide (127 < x0_1) = true := decide_eq_true c4
    clear c4
    by_cases c5 : x3_1.length < 140737488355328
    ·rw [if_pos c5] at H
     have LMc5 := Aside0.mk c5
     clear c5
     obtain ⟨y215, hy215⟩ : ∃ y_ : List Int, y_ = (x3_1 ++ [(wrap64 ((Int.tmod x0_1 128) + 128)) % 256]) := ⟨_, rfl⟩
     replace H : (spec_l01Var.l0 k1 (wrap64 (Int.tdiv x0_1 128)) y215) = some r := by first | (rw [hy215]; with_reducible exact H) | (have H2_ := (Option.bind_some _ _).symm.trans H; rw [hy215]; with_reducible exact H2_) | (have H2_ := (Option.bind_some _ _).symm.trans H; with_reducible exact H2_) | with_reducible exact H | (rw [hy215]; exact H) | exact H
     have Ny215 := Aside0.mk hy215
     clear hy215
     have H' := Aside0.mk H
     clear H
     go_wp2_with (first | ((with_reducible refine gate_builtin (b := .append) (xs := #[.tmp 7, .tmp 12]) rfl ?_); at_builtin; refine Kd.R_append (Kd.int .u8) (w0 := w) w.heap.size rfl (.tmp 7) (.tmp 12) 95 5 (.int .u8 0) 1 rfl Tryz.underlying95 info5 rfl (by decide) (by omega) u3 x3_1 ((wrap64 ((Int.tmod x0_1 128) + 128)) % 256) [.int .u8 ((wrap64 ((Int.tmod x0_1 128) + 128)) % 256)] (fun _ => True) (fun _ => False) rfl rfl ?aP (fun _ hk => hk.elim) ?aF ?aO ?aB ?aS ?aL ?_; (case aP => exact rfl); (case aB => exact (zb0 HB.out)); (case aF => exact (fun _ _ => trivial)); (case aO => exact (rx HO_3.out)); (case aS => exact (below_size (zb0 HB.out))); (case aL => have := LMc5.out; omega); intro v216 w6 ho hb hg hat; rw [← Ny215.out] at ho; have HO217 := am (ho); replace HB := am (hb); clear HO_3; clear ho hb hg hat))
     go_roundg k1
     case measure => have := HK1.out; omega
     case rel => exact ⟨(wrap64 (Int.tdiv x0_1 128)), (y215), (by first | rfl | (simp; done) | (simp [*]; done)), H', ⟨by have := HK1.out; omega⟩, ⟨rx HO217.out⟩, ⟨zb0 HB.out⟩⟩
    ·rw [if_neg c5] at H
     exact absurd H (by simp)
   ·rw [if_neg c4] at H
    have c4b0 : decide (127 < x0_1) = false := decide_eq_false c4
    clear c4
    by_cases c7 : x3_1.length < 140737488355328
    ·rw [if_pos c7] at H
     have LMc7 := Aside0.mk c7
     clear c7
     obtain ⟨y218, hy218⟩ : ∃ y_ : List Int, y_ = (x3_1 ++ [(x0_1) % 256]) := ⟨_, rfl⟩
     replace H : (some (strOfNums y218)) = some r := by first | (rw [hy218]; with_reducible exact H) | (have H2_ := (Option.bind_some _ _).symm.trans H; rw [hy218]; with_reducible exact H2_) | (have H2_ := (Option.bind_some _ _).symm.trans H; with_reducible exact H2_) | with_reducible exact H | (rw [hy218]; exact H) | exact H
     have Ny218 := Aside0.mk hy218
     clear hy218
     obtain rfl := Option.some.inj H
     go_wp2_with (first | ((with_reducible refine gate_builtin (b := .append) (xs := #[.tmp 16, .tmp 19]) rfl ?_); at_builtin; refine Kd.R_append (Kd.int .u8) (w0 := w) w.heap.size rfl (.tmp 16) (.tmp 19) 95 5 (.int .u8 0) 1 rfl Tryz.underlying95 info5 rfl (by decide) (by omega) u3 x3_1 ((x0_1) % 256) [.int .u8 ((x0_1) % 256)] (fun _ => True) (fun _ => False) rfl rfl ?aP (fun _ hk => hk.elim) ?aF ?aO ?aB ?aS ?aL ?_; (case aP => exact rfl); (case aB => exact (zb0 HB.out)); (case aF => exact (fun _ _ => trivial)); (case aO => exact (rx HO_3.out)); (case aS => exact (below_size (zb0 HB.out))); (case aL => have := LMc7.out; omega); intro v219 w8 ho hb hg hat; rw [← Ny218.out] at ho; have HO220 := am (ho); replace HB := am (hb); clear HO_3; clear ho hb hg hat; have hcv9 := own_string (P := Tryz.prog) Tryz.underlying95 Tryz.underlying5 Tryz.underlying9 (Kd.own_of_R HO220.out)))
     go_ret
     exact ⟨by first | rfl | (simp [errW_none, errW_some] <;> rfl) | (simp [*, errW_none, errW_some] <;> rfl), zb0 HB.out⟩
    ·rw [if_neg c7] at H
     exact absurd H (by simp)

end Go.Proofs.YtogifkjkbfdocaaGreatDoor.QFnExactSnapActs
