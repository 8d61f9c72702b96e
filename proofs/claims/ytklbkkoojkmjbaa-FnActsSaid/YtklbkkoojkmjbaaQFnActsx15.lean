/- Written by the kit's print.py, called by our own print2.sh with one import more; not by print.sh. -/
import Derived.Test.YtklbkkoojkmjbaaQFnActsx0
import Derived.Test.YtklbkkoojkmjbaaQFnActsx2
namespace Go.Proofs.Ytklbkkoojkmjbaa.QFnActs
open Go.RowKit Go.Proofs.YtklbkkoojkmjbaaW.PrintWords Go.Proofs.YtklbkkoojkmjbaaW.PrintLast Go.Proofs.YtklbkkoojkmjbaaW.PrintMore
attribute [local go_sem] max2_int min2_int max_two min_two max_three min_three max_four min_four   -- for this text's walks alone
open Go.Proofs.Ytklbkkoojkmjbaa.Short
set_option linter.unusedVariables false
set_option linter.unusedSimpArgs false

/-! ### impl_LoseDisk: function 55 -/
def impl_LoseDisk.l0 : Nat → List Int → List (S66) → Int → Int → List (S66) → Option ((List (S66)) × Bool)
 | 0, _, _, _, _, _ => none
 | k + 1, x1, x17, x18, x19, x481000 => if x19 < x18 then (if 0 ≤ x19 then (if x19 < (x17.length : Int) then (if x19 < (x1.length : Int) then (if 0 ≤ (mx ((rd_T66 x17 x19).f2) (mn (rd x1 x19) (((rd_T66 x17 x19).f1).size : Int))) then (if (mx ((rd_T66 x17 x19).f2) (mn (rd x1 x19) (((rd_T66 x17 x19).f1).size : Int))) ≤ (((rd_T66 x17 x19).f1).size : Int) then (if x19 < (x481000.length : Int) then (impl_LoseDisk.l0 k x1 x17 x18 (wrap64 (x19 + 1)) (x481000.set (x19 : Int).toNat (⟨(rd_T66 x17 x19).f0, ((rd_T66 x17 x19).f1).extract 0 ((mx ((rd_T66 x17 x19).f2) (mn (rd x1 x19) (((rd_T66 x17 x19).f1).size : Int))) : Int).toNat, mx ((rd_T66 x17 x19).f2) (mn (rd x1 x19) (((rd_T66 x17 x19).f1).size : Int))⟩ : S66))) else (none)) else (none)) else (none)) else (if 0 ≤ ((rd_T66 x17 x19).f2) then (if ((rd_T66 x17 x19).f2) ≤ (((rd_T66 x17 x19).f1).size : Int) then (if x19 < (x481000.length : Int) then (impl_LoseDisk.l0 k x1 x17 x18 (wrap64 (x19 + 1)) (x481000.set (x19 : Int).toNat (⟨(rd_T66 x17 x19).f0, ((rd_T66 x17 x19).f1).extract 0 (((rd_T66 x17 x19).f2) : Int).toNat, (rd_T66 x17 x19).f2⟩ : S66))) else (none)) else (none)) else (none))) else (none)) else (none)) else (some (x481000, true))
def impl_LoseDisk.f (k : Nat) (l0_0 : List (S66)) (l1 : List Int) : Option ((List (S66)) × Bool) := (impl_DiskOk.f k l0_0).bind fun t476 => (if t476 = true then ((impl_copyDisk.f l0_0).bind fun t477 => (impl_LoseDisk.l0 k l1 l0_0 (l0_0.length : Int) 0 t477)) else (some (([] : List (S66)), false)))
theorem impl_LoseDisk.mono_l : ∀ k, (∀ y0 y1 y2 y3 y4, LeO (impl_LoseDisk.l0 k y0 y1 y2 y3 y4) (impl_LoseDisk.l0 (k + 1) y0 y1 y2 y3 y4))
 | 0 => fun _ _ _ _ _ r h => by simp [impl_LoseDisk.l0] at h
 | k + 1 => by
  have ih0 := impl_LoseDisk.mono_l k
  ·intro y0 y1 y2 y3 y4
   unfold impl_LoseDisk.l0
   repeat' first
   | (with_reducible exact ih0 _ _ _ _ _)
   | (with_reducible exact impl_DiskOk.mono _ _)
   | (with_reducible exact LeO.refl _)
   | (with_reducible exact LeO.none _)
   | (with_reducible refine LeO.ite ?_ ?_)
   | (with_reducible refine LeO.bind ?_ (fun _ => ?_))
   | exact ih0 _ _ _ _ _
   | exact impl_DiskOk.mono _ _
   | exact LeO.none _
   | refine LeO.ite ?_ ?_
   | refine LeO.bind ?_ (fun _ => ?_)
theorem impl_LoseDisk.mono : ∀ a0 a1 k, LeO (impl_LoseDisk.f k a0 a1) (impl_LoseDisk.f (k + 1) a0 a1) := by
 intro a0 a1 k
 have ih0 := impl_LoseDisk.mono_l k
 unfold impl_LoseDisk.f
 repeat' first
   | (with_reducible exact ih0 _ _ _ _ _)
   | (with_reducible exact impl_DiskOk.mono _ _)
   | (with_reducible exact LeO.refl _)
   | (with_reducible exact LeO.none _)
   | (with_reducible refine LeO.ite ?_ ?_)
   | (with_reducible refine LeO.bind ?_ (fun _ => ?_))
   | exact ih0 _ _ _ _ _
   | exact impl_DiskOk.mono _ _
   | exact LeO.none _
   | refine LeO.ite ?_ ?_
   | refine LeO.bind ?_ (fun _ => ?_)
def impl_LoseDisk.T9 : Bool × List (List Nat × List Nat) := (true, [([], []), ([], []), ([], []), ([1, 2], [1, 2]), ([3], [3]), ([], []), ([5], [5]), ([6], [6]), ([4, 7], [4, 7]), ([0, 8], [0, 8]), ([9, 0, 1, 2, 3, 4, 5, 6, 7, 8, 9], [0, 9])])
def impl_LoseDisk.B9 : List Nat := [0, 0, 0, 6, 14, 0, 32, 96, 254, 511, 1023]
theorem impl_LoseDisk.tab9 : rtab .any (opsOf Try.f55 9) = impl_LoseDisk.T9 := by kernel_rfl
theorem impl_LoseDisk.bits9 : waitsOk impl_LoseDisk.T9.2 impl_LoseDisk.B9 = true := by kernel_rfl
def impl_LoseDisk.T10 : Bool × List (List Nat × List Nat) := (true, [([], []), ([0], [0]), ([], []), ([], []), ([3], [3]), ([], []), ([5], [5]), ([], []), ([6, 7], [6, 7]), ([], []), ([4, 8, 9], [4, 8, 9]), ([1, 2, 0, 1, 2, 3, 4, 5, 6, 7, 8, 9, 10], [1, 2]), ([11, 10, 0, 1, 2, 3, 4, 5, 6, 7, 8, 9, 10], [10, 11])])
def impl_LoseDisk.B10 : List Nat := [0, 1, 0, 0, 8, 0, 32, 0, 224, 0, 1016, 2047, 4095]
theorem impl_LoseDisk.tab10 : rtab .any (opsOf Try.f55 10) = impl_LoseDisk.T10 := by kernel_rfl
theorem impl_LoseDisk.bits10 : waitsOk impl_LoseDisk.T10.2 impl_LoseDisk.B10 = true := by kernel_rfl
set_option maxHeartbeats 8000000 in
set_option maxRecDepth 100000 in
theorem impl_LoseDisk.calls (k : Nat) (A0_0 : Option Addr) (c0_0 : Nat) (l0_0 : List (S66)) (A1 : Option Addr) (c1 : Nat) (l1 : List Int) (r1 : List (S66)) (r2 : Bool) (w : World) (hr0_0 : Kd.C k66 w A0_0 l0_0.length l0_0) (hc0_0 : l0_0.length ≤ c0_0) (hr1 : Kd.C (Kd.int .i64) w A1 l1.length l1) (hc1 : l1.length ≤ c1) (h : impl_LoseDisk.f k l0_0 l1 = some (r1, r2)) :
  Calls Try.prog 55 #[.agg #[.slice A0_0 l0_0.length c0_0], .slice A1 l1.length c1] w fun e w' => ∃ v0_ : Value, e = .returned (.tuple #[.agg #[v0_], .bool r2]) ∧ Kd.R k66 66 w' w.heap.size (fun _ => True) v0_ r1 ∧ Below w.heap.size w w' := by
 have hu31 := Try.underlying31
 have hu66 := Try.underlying66
 have HR0_0 := Aside0.mk hr0_0
 have HC0_0 := Aside0.mk hc0_0
 clear hr0_0 hc0_0
 have HR1 := Aside0.mk hr1
 have HC1 := Aside0.mk hc1
 clear hr1 hc1
 have HB := Aside0.mk (Below.refl w.heap.size w)
 have H : ((impl_DiskOk.f k l0_0).bind fun t476 => (if t476 = true then ((impl_copyDisk.f l0_0).bind fun t477 => (impl_LoseDisk.l0 k l1 l0_0 (l0_0.length : Int) 0 t477)) else (some (([] : List (S66)), false)))) = some (r1, r2) := h
 clear h
 replace H := Option.bind_eq_some_iff.mp H
 obtain ⟨t476, A30, H⟩ := H
 try dsimp only at H
 have A3 := Aside0.mk A30
 clear A30
 by_cases c4 : t476 = true
 ·subst c4
  have H1 : ((impl_copyDisk.f l0_0).bind fun t477 => (impl_LoseDisk.l0 k l1 l0_0 (l0_0.length : Int) 0 t477)) = some (r1, r2) := by rw [if_pos rfl] at H; exact H
  clear H
  have H := H1
  clear H1
  replace H := Option.bind_eq_some_iff.mp H
  obtain ⟨t477, A50, H⟩ := H
  try dsimp only at H
  have A5 := Aside0.mk A50
  clear A50
  have H' := Aside0.mk H
  clear H
  go_enter Try.func55, Try.ntmps55
  go_wp2_with (first | ((with_reducible refine gate_dst (N := 2) rfl ?_); refine box_event rfl (N := 2) rfl (cs := #[.slice A0_0 l0_0.length c0_0]) (t := 31) zrun ?_; intro gb474 hg w6 hbox hb; have BK474 := am (hbox); have GW474 := zge hg (zb0 HB.out); have GE474 := zge hg (zb0 HB.out); replace HB := zs0 hb HB; clear hb hbox hg) | ((with_reducible refine gate_dst (N := 4) rfl ?_); refine box_event rfl (N := 4) rfl (cs := #[.slice none 0 0]) (t := 31) zrun ?_; intro gb475 hg w7 hbox hb; have BK475 := am (hbox); have GW475 := zge hg (zb1 HB.out GE474.out); have GE475 := zge hg (zb1 HB.out GE474.out); obtain ⟨NB474_475, NB475_474⟩ := zne hg BK474; replace BK474 := zk hb BK474; replace HB := zs1 hb HB GE474; clear hb hbox hg; obtain ⟨hnb8, hnc8⟩ := zn2 NB474_475; obtain ⟨hcz9_0, hfz9_0⟩ := zc1 BK474.out) | ((with_reducible refine gate_callee (f := 39) rfl ?_); refine goesL_ (some 11) rfl rfl Try.func39 (by kernel_rfl) rfl #[.agg #[.slice A0_0 l0_0.length c0_0]] rfl zr ?_; (with_reducible refine (impl_DiskOk.calls k _ _ l0_0 true _ ?side1 ?side2 A3.out).mono ?_); (case side1 => repeat (first | exact (Kd.C_below HR0_0.out HB.out) | (with_reducible refine Kd.C_alloc ?_ _) | (with_reducible refine Kd.C_drewN ?_ _) | (with_reducible refine Kd.C_drew ?_))); (case side2 => exact HC0_0.out); rintro e w10 ⟨rfl, hb⟩; refine ⟨_, rfl, ?_⟩; replace BK474 := zk hb BK474; replace BK475 := zk hb BK475; replace HB := zs2 hb HB GE474 GE475; clear hb; obtain ⟨hcz11_0, hfz11_0⟩ := zc1 BK474.out) | ((with_reducible refine gate_callee (f := 46) rfl ?_); refine goesL_ (some 15) rfl rfl Try.func46 (by kernel_rfl) rfl #[.agg #[.slice A0_0 l0_0.length c0_0]] rfl zr ?_; (with_reducible refine (impl_copyDisk.calls _ _ l0_0 t477 _ ?side1 ?side2 A5.out).mono ?_); (case side1 => repeat (first | exact (Kd.C_below HR0_0.out HB.out) | (with_reducible refine Kd.C_alloc ?_ _) | (with_reducible refine Kd.C_drewN ?_ _) | (with_reducible refine Kd.C_drew ?_))); (case side2 => exact HC0_0.out); rintro e w12 ⟨v478, rfl, ho0, hb⟩; refine ⟨_, rfl, ?_⟩; have HO479 := am (Kd.R_lower ho0 (below_size (zb2 HB.out GE474.out GE475.out))); replace BK474 := zk hb BK474; replace BK475 := zk hb BK475; replace HB := zs2 hb HB GE474 GE475; clear hb ho0) | ((with_reducible refine gate_dst (N := 6) rfl ?_); refine box_event rfl (N := 6) rfl (cs := #[.slice none 0 0]) (t := 31) zrun ?_; intro gb480 hg w13 hbox hb; have BK480 := am (hbox); have GE480 := zge hg (zb2 HB.out GE474.out GE475.out); obtain ⟨NB474_480, NB480_474⟩ := zne hg BK474; obtain ⟨NB475_480, NB480_475⟩ := zne hg BK475; replace HO479 := zo hb HO479; replace BK474 := zk hb BK474; replace BK475 := zk hb BK475; replace HB := zs2 hb HB GE474 GE475; clear hb hbox hg; obtain ⟨Ao14, co14, eo14⟩ := Kd.R_slice HO479.out; subst eo14; obtain ⟨hnb15, hnc15⟩ := zn2 NB480_474; obtain ⟨hnb16, hnc16⟩ := zn2 NB480_475; obtain ⟨hcz17_0, hfz17_0⟩ := zc1 BK480.out; obtain ⟨hcz18_0, hfz18_0⟩ := zc1 BK474.out))
  go_loopg [19] k (fun kq v19 w' => ∃ (x19_1 : Int) (x481000_1 : List (S66)) (u481000 : Value), v19 = .int .i64 x19_1 ∧ Aside0 (impl_LoseDisk.l0 kq l1 l0_0 (l0_0.length : Int) x19_1 x481000_1 = some (r1, r2)) ∧ Aside0 (kq ≤ k) ∧ Aside0 (Kd.R k66 66 w' w.heap.size (fun _ => True) u481000 x481000_1) ∧ Aside0 (w'.heap[gb474]? = some (.cells #[(.slice A0_0 l0_0.length c0_0)] 31 (0, 0))) ∧ Aside0 (w'.heap[gb475]? = some (.cells #[(.slice none 0 0)] 31 (0, 0))) ∧ Aside0 (w'.heap[gb480]? = some (.cells #[u481000] 31 (0, 0))) ∧ Aside0 (Below w.heap.size w w'))
  case atStart => exact ⟨(0), (t477), (.slice Ao14 t477.length co14), (by first | rfl | (simp; done) | (simp [*]; done)), H', ⟨Nat.le_refl _⟩, ⟨rx (Kd.R_mono (Kd.R_far (p := ⟨gb480, 0, none⟩) (Kd.R_types HO479.out BK480.out (by decide)) (fun _ hk => hk.2) (.slice Ao14 t477.length co14)) (fun _ hk => trivial))⟩, ⟨zf1 BK474.out NB474_480.out⟩, ⟨zf1 BK475.out NB475_480.out⟩, ⟨by (with_reducible repeat (first | refine blk_drewN ?_ _ | refine blk_drew ?_ | refine blk_alloc ?_ _)); refine blk_put (cs := #[.slice none 0 0]) ?_ 0 _ rfl; (with_reducible repeat (first | refine blk_drewN ?_ _ | refine blk_drew ?_ | refine blk_alloc ?_ _)); exact BK480.out⟩, ⟨zb3 HB.out GE474.out GE475.out GE480.out⟩⟩
  case round =>
   clear H'
   obtain ⟨x19_1, x481000_1, u481000, rfl, HA, HK1, HO_481000, BK474, BK475, BK480, HB⟩ := hrel
   cases gk with
   | zero => exact absurd HA.out (by simp [impl_LoseDisk.l0])
   | succ k1 =>
    have H := HA.out
    clear HA
    simp only [impl_LoseDisk.l0] at H
    by_cases c19 : x19_1 < (l0_0.length : Int)
    ·rw [if_pos c19] at H
     have c19b0 : decide (x19_1 < (l0_0.length : Int)) = true := decide_eq_true c19
     have c19b1 : decide ((l0_0.length : Int) ≤ x19_1) = false := decide_eq_false (by omega)
     clear c19
     by_cases c20 : 0 ≤ x19_1
     ·rw [if_pos c20] at H
      have c20b0 : decide (0 ≤ x19_1) = true := decide_eq_true c20
      clear c20
      by_cases c21 : x19_1 < (l0_0.length : Int)
      ·rw [if_pos c21] at H
       have c21b0 : decide (x19_1 < (l0_0.length : Int)) = true := decide_eq_true c21
       have c21b1 : decide ((l0_0.length : Int) ≤ x19_1) = false := decide_eq_false (by omega)
       clear c21
       by_cases c22 : x19_1 < (l1.length : Int)
       ·rw [if_pos c22] at H
        have c22b0 : decide (x19_1 < (l1.length : Int)) = true := decide_eq_true c22
        have c22b1 : decide ((l1.length : Int) ≤ x19_1) = false := decide_eq_false (by omega)
        clear c22
        obtain ⟨ji23, hji23⟩ : ∃ j_ : Int, (mn (rd l1 x19_1) (((rd_T66 l0_0 x19_1).f1).size : Int)) = j_ := ⟨_, rfl⟩
        replace H : (if 0 ≤ (mx ((rd_T66 l0_0 x19_1).f2) (ji23)) then (if (mx ((rd_T66 l0_0 x19_1).f2) (ji23)) ≤ (((rd_T66 l0_0 x19_1).f1).size : Int) then (if x19_1 < (x481000_1.length : Int) then (impl_LoseDisk.l0 k1 l1 l0_0 (l0_0.length : Int) (wrap64 (x19_1 + 1)) (x481000_1.set (x19_1 : Int).toNat (⟨(rd_T66 l0_0 x19_1).f0, ((rd_T66 l0_0 x19_1).f1).extract 0 ((mx ((rd_T66 l0_0 x19_1).f2) (ji23)) : Int).toNat, mx ((rd_T66 l0_0 x19_1).f2) (ji23)⟩ : S66))) else (none)) else (none)) else (none)) = some (r1, r2) := by first | (rw [hji23] at H; exact H) | (simp only [hji23] at H ⊢; exact H)
        have hji23_ : (if (((rd_T66 l0_0 x19_1).f1).size : Int) < (rd l1 x19_1) then (((rd_T66 l0_0 x19_1).f1).size : Int) else (rd l1 x19_1)) = ji23 := hji23
        obtain ⟨ji24, hji24⟩ : ∃ j_ : Int, (mx ((rd_T66 l0_0 x19_1).f2) (ji23)) = j_ := ⟨_, rfl⟩
        replace H : (if 0 ≤ (ji24) then (if (ji24) ≤ (((rd_T66 l0_0 x19_1).f1).size : Int) then (if x19_1 < (x481000_1.length : Int) then (impl_LoseDisk.l0 k1 l1 l0_0 (l0_0.length : Int) (wrap64 (x19_1 + 1)) (x481000_1.set (x19_1 : Int).toNat (⟨(rd_T66 l0_0 x19_1).f0, ((rd_T66 l0_0 x19_1).f1).extract 0 ((ji24) : Int).toNat, ji24⟩ : S66))) else (none)) else (none)) else (none)) = some (r1, r2) := by first | (rw [hji24] at H; exact H) | (simp only [hji24] at H ⊢; exact H)
        have hji24_ : (if ((rd_T66 l0_0 x19_1).f2) < (ji23) then (ji23) else ((rd_T66 l0_0 x19_1).f2)) = ji24 := hji24
        by_cases c25 : 0 ≤ (ji24)
        ·rw [if_pos c25] at H
         have c25b0 := eq_true c25
         have c25b1 : decide (0 ≤ (ji24)) = true := decide_eq_true c25
         clear c25
         by_cases c26 : (ji24) ≤ (((rd_T66 l0_0 x19_1).f1).size : Int)
         ·rw [if_pos c26] at H
          have c26b0 := eq_true c26
          have c26b1 : decide ((ji24) ≤ (((rd_T66 l0_0 x19_1).f1).size : Int)) = true := decide_eq_true c26
          clear c26
          by_cases c27 : x19_1 < (x481000_1.length : Int)
          ·rw [if_pos c27] at H
           have c27b0 : decide (x19_1 < (x481000_1.length : Int)) = true := decide_eq_true c27
           have c27b1 : decide ((x481000_1.length : Int) ≤ x19_1) = false := decide_eq_false (by omega)
           clear c27
           obtain ⟨y484, hy484⟩ : ∃ y_ : List (S66), y_ = (x481000_1.set (x19_1 : Int).toNat (⟨(rd_T66 l0_0 x19_1).f0, ((rd_T66 l0_0 x19_1).f1).extract 0 ((ji24) : Int).toNat, ji24⟩ : S66)) := ⟨_, rfl⟩
           replace H : (impl_LoseDisk.l0 k1 l1 l0_0 (l0_0.length : Int) (wrap64 (x19_1 + 1)) y484) = some (r1, r2) := by first | (rw [hy484]; with_reducible exact H) | (have H2_ := (Option.bind_some _ _).symm.trans H; rw [hy484]; with_reducible exact H2_) | (have H2_ := (Option.bind_some _ _).symm.trans H; with_reducible exact H2_) | with_reducible exact H | (rw [hy484]; exact H) | exact H
           have Ny484 := Aside0.mk hy484
           clear hy484
           have H' := Aside0.mk H
           clear H
           have p481 : 0 ≤ (x19_1 : Int) := zpq
           have q481 : x19_1 < (l0_0.length : Int) := zpq
           obtain ⟨ad481, e481, hx481_0, hx481_1, hx481_2⟩ := at_T66 HR0_0.out x19_1 p481 q481
           cases e481
           replace hx481_0 := (HB.out.cell (World.block_lt_of_cell? w _ hx481_0)).trans hx481_0
           replace hx481_1 := (HB.out.cell (World.block_lt_of_cell? w _ hx481_1)).trans hx481_1
           replace hx481_2 := (HB.out.cell (World.block_lt_of_cell? w _ hx481_2)).trans hx481_2
           replace p481 := eq_true p481
           replace q481 := eq_true q481
           try go_wp2_with (first | ((with_reducible refine gate_dst (N := 8) rfl ?_); refine box_event rfl (N := 8) rfl (cs := #[.string (⟨#[]⟩ : ByteArray), .string (⟨#[]⟩ : ByteArray), .int .i64 0]) (t := 66) zrun ?_; intro gb482 hg w29 hbox hb; have BK482 := am (hbox); have GW482 := zge hg (zb3 HB.out GE474.out GE475.out GE480.out); have GE482 := zge hg (zb3 HB.out GE474.out GE475.out GE480.out); obtain ⟨NB474_482, NB482_474⟩ := zne hg BK474; obtain ⟨NB475_482, NB482_475⟩ := zne hg BK475; obtain ⟨NB480_482, NB482_480⟩ := zne hg BK480; replace HO_481000 := am (Kd.R_below (Kd.R_elderB (rx HO_481000.out) gb482 (Nat.le_of_eq hg.symm)) hb); replace BK474 := zk hb BK474; replace BK475 := zk hb BK475; replace BK480 := zk hb BK480; replace HB := zs3 hb HB GE474 GE475 GE480; clear hb hbox hg; obtain ⟨hnb30, hnc30⟩ := zn2 NB482_474; obtain ⟨hnb31, hnc31⟩ := zn2 NB482_475; obtain ⟨hnb32, hnc32⟩ := zn2 NB482_480; obtain ⟨hcz33_0, hcz33_1, hcz33_2, hfz33_0, hfz33_1, hfz33_2⟩ := zc3 BK482.out))
           have n0_ : Aside0 (Kd.R k66 66 (((w29.setCell ⟨gb482, 0, none⟩ (.string ((rd_T66 l0_0 x19_1).f0))).setCell ⟨gb482, 1, none⟩ (.string ((rd_T66 l0_0 x19_1).f1))).setCell ⟨gb482, 2, none⟩ (.int .i64 ((rd_T66 l0_0 x19_1).f2))) w.heap.size (fun k_ => k_ ≠ gb482) u481000 x481000_1) := ⟨rx (Kd.R_mono (Kd.R_far (p := ⟨gb482, 2, none⟩) (Kd.R_far (p := ⟨gb482, 1, none⟩) (Kd.R_far (p := ⟨gb482, 0, none⟩) (Kd.R_mono HO_481000.out (fun k_ hk => (⟨hk, hk.2⟩ : _ ∧ k_ ≠ gb482))) (fun _ hk => hk.2) (.string ((rd_T66 l0_0 x19_1).f0))) (fun _ hk => hk.2) (.string ((rd_T66 l0_0 x19_1).f1))) (fun _ hk => hk.2) (.int .i64 ((rd_T66 l0_0 x19_1).f2))) (fun _ hk => hk.1.2))⟩
           have n1_ : Aside0 ((((w29.setCell ⟨gb482, 0, none⟩ (.string ((rd_T66 l0_0 x19_1).f0))).setCell ⟨gb482, 1, none⟩ (.string ((rd_T66 l0_0 x19_1).f1))).setCell ⟨gb482, 2, none⟩ (.int .i64 ((rd_T66 l0_0 x19_1).f2))).heap[gb474]? = some (.cells #[.slice (some ad481) l0_0.length c0_0] 31 (0, 0))) := ⟨zf1 BK474.out NB474_482.out⟩
           have n2_ : Aside0 ((((w29.setCell ⟨gb482, 0, none⟩ (.string ((rd_T66 l0_0 x19_1).f0))).setCell ⟨gb482, 1, none⟩ (.string ((rd_T66 l0_0 x19_1).f1))).setCell ⟨gb482, 2, none⟩ (.int .i64 ((rd_T66 l0_0 x19_1).f2))).heap[gb475]? = some (.cells #[.slice none 0 0] 31 (0, 0))) := ⟨zf1 BK475.out NB475_482.out⟩
           have n3_ : Aside0 ((((w29.setCell ⟨gb482, 0, none⟩ (.string ((rd_T66 l0_0 x19_1).f0))).setCell ⟨gb482, 1, none⟩ (.string ((rd_T66 l0_0 x19_1).f1))).setCell ⟨gb482, 2, none⟩ (.int .i64 ((rd_T66 l0_0 x19_1).f2))).heap[gb480]? = some (.cells #[u481000] 31 (0, 0))) := ⟨zf1 BK480.out NB480_482.out⟩
           have n4_ : Aside0 ((((w29.setCell ⟨gb482, 0, none⟩ (.string ((rd_T66 l0_0 x19_1).f0))).setCell ⟨gb482, 1, none⟩ (.string ((rd_T66 l0_0 x19_1).f1))).setCell ⟨gb482, 2, none⟩ (.int .i64 ((rd_T66 l0_0 x19_1).f2))).heap[gb482]? = some (.cells #[.string ((rd_T66 l0_0 x19_1).f0), .string ((rd_T66 l0_0 x19_1).f1), .int .i64 ((rd_T66 l0_0 x19_1).f2)] 66 (0, 0))) := ⟨(zt210 BK482.out)⟩
           have n5_ : Aside0 (Below w.heap.size w (((w29.setCell ⟨gb482, 0, none⟩ (.string ((rd_T66 l0_0 x19_1).f0))).setCell ⟨gb482, 1, none⟩ (.string ((rd_T66 l0_0 x19_1).f1))).setCell ⟨gb482, 2, none⟩ (.int .i64 ((rd_T66 l0_0 x19_1).f2)))) := ⟨zb4 HB.out GE474.out GE475.out GE480.out GE482.out⟩
           generalize (((w29.setCell ⟨gb482, 0, none⟩ (.string ((rd_T66 l0_0 x19_1).f0))).setCell ⟨gb482, 1, none⟩ (.string ((rd_T66 l0_0 x19_1).f1))).setCell ⟨gb482, 2, none⟩ (.int .i64 ((rd_T66 l0_0 x19_1).f2))) = w34 at n0_ n1_ n2_ n3_ n4_ n5_ ⊢
           have HO_481000 := n0_
           have BK474 := n1_
           have BK475 := n2_
           have BK480 := n3_
           have BK482 := n4_
           have HB := n5_
           clear n0_ n1_ n2_ n3_ n4_ n5_
           replace HO_481000 := am (Kd.R_drew HO_481000.out)
           replace BK474 := zw BK474
           replace BK475 := zw BK475
           replace BK480 := zw BK480
           replace BK482 := zw BK482
           replace HB := am (below_drew1 HB.out)
           have p483 : 0 ≤ (x19_1 : Int) := zpq
           have q483 : x19_1 < (l1.length : Int) := zpq
           obtain ⟨ad483, e483, hx483_0⟩ := Kd.at_int HR1.out x19_1 p483 q483
           have hw483_0 := hx483_0
           cases e483
           replace hx483_0 := (HB.out.cell (World.block_lt_of_cell? w _ hx483_0)).trans hx483_0
           replace p483 := eq_true p483
           replace q483 := eq_true q483
           refine start_ (n := 11) (S := fun w' => w'.cell? ⟨gb482, 0, none⟩ = some (.string ((rd_T66 l0_0 x19_1).f0)) ∧ w'.cell? ⟨gb482, 1, none⟩ = some (.string ((rd_T66 l0_0 x19_1).f1)) ∧ w'.cell? ⟨gb482, 2, none⟩ = some (.int .i64 ((rd_T66 l0_0 x19_1).f2)) ∧ w'.cell? (ad483.add (x19_1).toNat) = some (.int .i64 (rd l1 x19_1))) (ds := []) #[false, false, false, false, false, false, false, false, false, false, false] (by kernel_rfl) rfl rfl ⟨ct BK482.out 0, ct BK482.out 1, ct BK482.out 2, ((HB.out.cell (World.block_lt_of_cell? w _ hw483_0)).trans hw483_0)⟩ (fun hHeld => ?_); refine with_tabW impl_LoseDisk.tab9 impl_LoseDisk.bits9 (fun HT_ HW_ => ?_)
           generalize w34.drew = w35 at HO_481000 BK474 BK475 BK480 BK482 HB hx483_0 hHeld ⊢
           refine zpu 0 30 #[true, false, false, false, false, false, false, false, false, false, false] HT_ ?_
           refine zpu 1 31 #[true, true, false, false, false, false, false, false, false, false, false] HT_ ?_
           refine zpu 2 32 #[true, true, true, false, false, false, false, false, false, false, false] HT_ ?_
           refine zpu 3 33 #[true, true, true, true, false, false, false, false, false, false, false] HT_ ?_
           refine zpu 5 35 #[true, true, true, true, false, true, false, false, false, false, false] HT_ ?_
           refine ztk4 4 34 #[true, true, true, true, true, true, false, false, false, false, false] HT_ HW_ hHeld ?_
           refine ztk4 6 36 #[true, true, true, true, true, true, true, false, false, false, false] HT_ HW_ hHeld ?_
           refine zpu 7 37 #[true, true, true, true, true, true, true, true, false, false, false] HT_ ?_
           refine zpu 8 38 #[true, true, true, true, true, true, true, true, true, false, false] HT_ ?_
           refine zpu 9 39 #[true, true, true, true, true, true, true, true, true, true, false] HT_ ?_
           refine zpu 10 9 #[true, true, true, true, true, true, true, true, true, true, true] HT_ ?_
           refine zdn HT_ ?_
           try go_wp2
           replace HO_481000 := am (Kd.R_drew HO_481000.out)
           replace BK474 := zw BK474
           replace BK475 := zw BK475
           replace BK480 := zw BK480
           replace BK482 := zw BK482
           replace HB := am (below_drew1 HB.out)
           have p28 : 0 ≤ (x19_1 : Int) := zpq
           have q28 : (x19_1 : Int) < ((x481000_1.length : Int) : Int) := zpq
           obtain ⟨go28, co28, eo28, gb28, gl28, cl28, HG28⟩ := Kd.R_form HO_481000.out (by omega)
           (first | cases eo28 | (injection eo28 with ea_ en_ ec_; (first | subst ea_ | (injection ea_ with ea_; subst ea_)); subst ec_; clear en_))
           have GB28 := Aside0.mk gb28
           have GG28 := Aside0.mk HG28
           clear gb28 gl28 HG28
           obtain ⟨ce28, hcl28, hM28, hcc28, hfr28⟩ := Kd.R_elem HO_481000.out z66 (x19_1 : Int) p28 q28
           obtain rfl := k66_openM hM28
           have hx28_0 : World.cell? _ ⟨go28, (x19_1 : Int).toNat * 3, none⟩ = some (.string ((rd_T66 x481000_1 x19_1).f0)) := hcc28 0 _ rfl
           have hx28_1 : World.cell? _ ⟨go28, (x19_1 : Int).toNat * 3 + 1, none⟩ = some (.string ((rd_T66 x481000_1 x19_1).f1)) := hcc28 1 _ rfl
           have hx28_2 : World.cell? _ ⟨go28, (x19_1 : Int).toNat * 3 + 2, none⟩ = some (.int .i64 ((rd_T66 x481000_1 x19_1).f2)) := hcc28 2 _ rfl
           have hf28_0 : World.frozen? _ ⟨go28, (x19_1 : Int).toNat * 3, none⟩ = false := hfr28 0
           have hf28_1 : World.frozen? _ ⟨go28, (x19_1 : Int).toNat * 3 + 1, none⟩ = false := hfr28 1
           have hf28_2 : World.frozen? _ ⟨go28, (x19_1 : Int).toNat * 3 + 2, none⟩ = false := hfr28 2
           clear hcl28 hcc28 hfr28 hM28
           replace p28 := eq_true p28
           replace q28 := eq_true q28
           obtain ⟨ce37, hcl37, hM37, hcc37, hfr37⟩ := Kd.R_elem HO_481000.out z66 (x19_1 : Int) (of_decide_eq_true (by first | (with_reducible assumption) | assumption)) (by have h_ : (x19_1 : Int) < ((x481000_1.length : Int) : Int) := of_decide_eq_true (by first | (with_reducible assumption) | assumption); first | exact h_ | (have e_ := (Kd.R_reads' HO_481000.out).1; omega) | simpa using h_)
           obtain rfl := k66_openM hM37
           have HP37 := (Kd.R_seg HO_481000.out (x19_1 : Int) (of_decide_eq_true (by first | (with_reducible assumption) | assumption)) (by have h_ : (x19_1 : Int) < ((x481000_1.length : Int) : Int) := of_decide_eq_true (by first | (with_reducible assumption) | assumption); first | exact h_ | (have e_ := (Kd.R_reads' HO_481000.out).1; omega) | simpa using h_) (seg := [.string ((rd_T66 l0_0 x19_1).f0), .string (((rd_T66 l0_0 x19_1).f1).extract 0 ((ji24) : Int).toNat), .int .i64 ji24]) (j := 0) hcl37 hcc37 (show 3 ≤ 3 from by decide) (x' := (⟨(rd_T66 l0_0 x19_1).f0, ((rd_T66 l0_0 x19_1).f1).extract 0 ((ji24) : Int).toNat, ji24⟩ : S66)) (k66_mkM _ _ _ (⟨(rd_T66 l0_0 x19_1).f0, ((rd_T66 l0_0 x19_1).f1).extract 0 ((ji24) : Int).toNat, ji24⟩ : S66) ) (fun _ hk => hk)).1
           rw [← Ny484.out] at HP37
           have HQ37 := Aside0.mk HP37
           clear hcl37 hcc37 hfr37 hM37 HP37
           refine start_ (n := 13) (S := fun w' => w'.cell? ⟨gb480, 0, none⟩ = some (.slice (some ⟨go28, 0, none⟩) x481000_1.length co28) ∧ w'.cell? ⟨gb482, 0, none⟩ = some (.string ((rd_T66 l0_0 x19_1).f0)) ∧ w'.cell? ⟨gb482, 1, none⟩ = some (.string ((rd_T66 l0_0 x19_1).f1)) ∧ w'.cell? ⟨gb482, 2, none⟩ = some (.int .i64 ((rd_T66 l0_0 x19_1).f2))) (ds := [12]) #[false, false, false, false, false, false, false, false, false, false, false, false, false] (by kernel_rfl) rfl rfl ⟨ct BK480.out 0, ct BK482.out 0, ct BK482.out 1, ct BK482.out 2⟩ (fun hHeld => ?_); refine with_tabW impl_LoseDisk.tab10 impl_LoseDisk.bits10 (fun HT_ HW_ => ?_)
           generalize w35.drew = w36 at HO_481000 BK474 BK475 BK480 BK482 HB GG28 HQ37 hf28_0 hf28_1 hf28_2 hx28_0 hx28_1 hx28_2 hHeld ⊢
           refine zpu 0 40 #[true, false, false, false, false, false, false, false, false, false, false, false, false] HT_ ?_
           refine zpu 2 42 #[true, false, true, false, false, false, false, false, false, false, false, false, false] HT_ ?_
           refine zpu 3 43 #[true, false, true, true, false, false, false, false, false, false, false, false, false] HT_ ?_
           refine zpu 5 45 #[true, false, true, true, false, true, false, false, false, false, false, false, false] HT_ ?_
           refine zpu 7 47 #[true, false, true, true, false, true, false, true, false, false, false, false, false] HT_ ?_
           refine zpu 9 49 #[true, false, true, true, false, true, false, true, false, true, false, false, false] HT_ ?_
           refine ztk4 1 41 #[true, true, true, true, false, true, false, true, false, true, false, false, false] HT_ HW_ hHeld ?_
           refine ztk4 4 44 #[true, true, true, true, true, true, false, true, false, true, false, false, false] HT_ HW_ hHeld ?_
           refine ztk4 6 46 #[true, true, true, true, true, true, true, true, false, true, false, false, false] HT_ HW_ hHeld ?_
           refine zpu 8 48 #[true, true, true, true, true, true, true, true, true, true, false, false, false] HT_ ?_
           refine zpu 10 50 #[true, true, true, true, true, true, true, true, true, true, true, false, false] HT_ ?_
           refine zpu 11 51 #[true, true, true, true, true, true, true, true, true, true, true, true, false] HT_ ?_
           refine last_ (i := 12) (N := none) #[true, true, true, true, true, true, true, true, true, true, true, true, true] rfl rfl (one_of HT_.out (by kernel_rfl)) (by decide) (fun K hK => ?_)
           refine skip_ (w1 := ?_) (by rfl) rfl ?_ ?_
           rotate_left
           ·go_simp
            rfl
           refine hK.out _ _ ?_
           clear hK K
           refine zdn HT_ ?_
           try go_wp2
           go_roundg k1
           case measure => have := HK1.out; omega
           case rel => exact ⟨(wrap64 (x19_1 + 1)), (y484), (.slice (some ⟨go28, 0, none⟩) x481000_1.length co28), (by first | rfl | (simp; done) | (simp [*]; done)), H', ⟨by have := HK1.out; omega⟩, ⟨rx (Kd.R_mono HQ37.out (fun _ hk => trivial))⟩, ⟨by (with_reducible repeat (first | refine blk_drewN ?_ _ | refine blk_drew ?_ | refine blk_alloc ?_ _)); refine blk_far ?_ (by have h_ := Kd.R_ne HO_481000.out BK474.out (by decide); intro e_; exact h_ (by rw [e_]; rfl)) _; (with_reducible repeat (first | refine blk_drewN ?_ _ | refine blk_drew ?_ | refine blk_alloc ?_ _)); refine blk_far ?_ (by have h_ := Kd.R_ne HO_481000.out BK474.out (by decide); intro e_; exact h_ (by rw [e_]; rfl)) _; (with_reducible repeat (first | refine blk_drewN ?_ _ | refine blk_drew ?_ | refine blk_alloc ?_ _)); refine blk_far ?_ (by have h_ := Kd.R_ne HO_481000.out BK474.out (by decide); intro e_; exact h_ (by rw [e_]; rfl)) _; (with_reducible repeat (first | refine blk_drewN ?_ _ | refine blk_drew ?_ | refine blk_alloc ?_ _)); exact BK474.out⟩, ⟨by (with_reducible repeat (first | refine blk_drewN ?_ _ | refine blk_drew ?_ | refine blk_alloc ?_ _)); refine blk_far ?_ (by have h_ := Kd.R_ne HO_481000.out BK475.out (by decide); intro e_; exact h_ (by rw [e_]; rfl)) _; (with_reducible repeat (first | refine blk_drewN ?_ _ | refine blk_drew ?_ | refine blk_alloc ?_ _)); refine blk_far ?_ (by have h_ := Kd.R_ne HO_481000.out BK475.out (by decide); intro e_; exact h_ (by rw [e_]; rfl)) _; (with_reducible repeat (first | refine blk_drewN ?_ _ | refine blk_drew ?_ | refine blk_alloc ?_ _)); refine blk_far ?_ (by have h_ := Kd.R_ne HO_481000.out BK475.out (by decide); intro e_; exact h_ (by rw [e_]; rfl)) _; (with_reducible repeat (first | refine blk_drewN ?_ _ | refine blk_drew ?_ | refine blk_alloc ?_ _)); exact BK475.out⟩, ⟨by (with_reducible repeat (first | refine blk_drewN ?_ _ | refine blk_drew ?_ | refine blk_alloc ?_ _)); refine blk_far ?_ (by have h_ := Kd.R_ne HO_481000.out BK480.out (by decide); intro e_; exact h_ (by rw [e_]; rfl)) _; (with_reducible repeat (first | refine blk_drewN ?_ _ | refine blk_drew ?_ | refine blk_alloc ?_ _)); refine blk_far ?_ (by have h_ := Kd.R_ne HO_481000.out BK480.out (by decide); intro e_; exact h_ (by rw [e_]; rfl)) _; (with_reducible repeat (first | refine blk_drewN ?_ _ | refine blk_drew ?_ | refine blk_alloc ?_ _)); refine blk_far ?_ (by have h_ := Kd.R_ne HO_481000.out BK480.out (by decide); intro e_; exact h_ (by rw [e_]; rfl)) _; (with_reducible repeat (first | refine blk_drewN ?_ _ | refine blk_drew ?_ | refine blk_alloc ?_ _)); exact BK480.out⟩, ⟨zb7 HB.out GB28.out GB28.out GB28.out GE474.out GE475.out GE480.out GE482.out⟩⟩
          ·rw [if_neg c27] at H
           exact absurd H (by simp)
         ·rw [if_neg c26] at H
          exact absurd H (by simp)
        ·rw [if_neg c25] at H
         exact absurd H (by simp)
       ·rw [if_neg c22] at H
        have c22b0 : decide (x19_1 < (l1.length : Int)) = false := decide_eq_false c22
        have c22b1 : decide ((l1.length : Int) ≤ x19_1) = true := decide_eq_true (by omega)
        clear c22
        by_cases c38 : 0 ≤ ((rd_T66 l0_0 x19_1).f2)
        ·rw [if_pos c38] at H
         have c38b0 := eq_true c38
         have c38b1 : decide (0 ≤ ((rd_T66 l0_0 x19_1).f2)) = true := decide_eq_true c38
         clear c38
         by_cases c39 : ((rd_T66 l0_0 x19_1).f2) ≤ (((rd_T66 l0_0 x19_1).f1).size : Int)
         ·rw [if_pos c39] at H
          have c39b0 := eq_true c39
          have c39b1 : decide (((rd_T66 l0_0 x19_1).f2) ≤ (((rd_T66 l0_0 x19_1).f1).size : Int)) = true := decide_eq_true c39
          clear c39
          by_cases c40 : x19_1 < (x481000_1.length : Int)
          ·rw [if_pos c40] at H
           have c40b0 : decide (x19_1 < (x481000_1.length : Int)) = true := decide_eq_true c40
           have c40b1 : decide ((x481000_1.length : Int) ≤ x19_1) = false := decide_eq_false (by omega)
           clear c40
           obtain ⟨y485, hy485⟩ : ∃ y_ : List (S66), y_ = (x481000_1.set (x19_1 : Int).toNat (⟨(rd_T66 l0_0 x19_1).f0, ((rd_T66 l0_0 x19_1).f1).extract 0 (((rd_T66 l0_0 x19_1).f2) : Int).toNat, (rd_T66 l0_0 x19_1).f2⟩ : S66)) := ⟨_, rfl⟩
           replace H : (impl_LoseDisk.l0 k1 l1 l0_0 (l0_0.length : Int) (wrap64 (x19_1 + 1)) y485) = some (r1, r2) := by first | (rw [hy485]; with_reducible exact H) | (have H2_ := (Option.bind_some _ _).symm.trans H; rw [hy485]; with_reducible exact H2_) | (have H2_ := (Option.bind_some _ _).symm.trans H; with_reducible exact H2_) | with_reducible exact H | (rw [hy485]; exact H) | exact H
           have Ny485 := Aside0.mk hy485
           clear hy485
           have H' := Aside0.mk H
           clear H
           have p481 : 0 ≤ (x19_1 : Int) := zpq
           have q481 : x19_1 < (l0_0.length : Int) := zpq
           obtain ⟨ad481, e481, hx481_0, hx481_1, hx481_2⟩ := at_T66 HR0_0.out x19_1 p481 q481
           cases e481
           replace hx481_0 := (HB.out.cell (World.block_lt_of_cell? w _ hx481_0)).trans hx481_0
           replace hx481_1 := (HB.out.cell (World.block_lt_of_cell? w _ hx481_1)).trans hx481_1
           replace hx481_2 := (HB.out.cell (World.block_lt_of_cell? w _ hx481_2)).trans hx481_2
           replace p481 := eq_true p481
           replace q481 := eq_true q481
           try go_wp2_with (first | ((with_reducible refine gate_dst (N := 8) rfl ?_); refine box_event rfl (N := 8) rfl (cs := #[.string (⟨#[]⟩ : ByteArray), .string (⟨#[]⟩ : ByteArray), .int .i64 0]) (t := 66) zrun ?_; intro gb482 hg w42 hbox hb; have BK482 := am (hbox); have GW482 := zge hg (zb3 HB.out GE474.out GE475.out GE480.out); have GE482 := zge hg (zb3 HB.out GE474.out GE475.out GE480.out); obtain ⟨NB474_482, NB482_474⟩ := zne hg BK474; obtain ⟨NB475_482, NB482_475⟩ := zne hg BK475; obtain ⟨NB480_482, NB482_480⟩ := zne hg BK480; replace HO_481000 := am (Kd.R_below (Kd.R_elderB (rx HO_481000.out) gb482 (Nat.le_of_eq hg.symm)) hb); replace BK474 := zk hb BK474; replace BK475 := zk hb BK475; replace BK480 := zk hb BK480; replace HB := zs3 hb HB GE474 GE475 GE480; clear hb hbox hg; obtain ⟨hnb43, hnc43⟩ := zn2 NB482_474; obtain ⟨hnb44, hnc44⟩ := zn2 NB482_475; obtain ⟨hnb45, hnc45⟩ := zn2 NB482_480; obtain ⟨hcz46_0, hcz46_1, hcz46_2, hfz46_0, hfz46_1, hfz46_2⟩ := zc3 BK482.out))
           have n0_ : Aside0 (Kd.R k66 66 (((w42.setCell ⟨gb482, 0, none⟩ (.string ((rd_T66 l0_0 x19_1).f0))).setCell ⟨gb482, 1, none⟩ (.string ((rd_T66 l0_0 x19_1).f1))).setCell ⟨gb482, 2, none⟩ (.int .i64 ((rd_T66 l0_0 x19_1).f2))) w.heap.size (fun k_ => k_ ≠ gb482) u481000 x481000_1) := ⟨rx (Kd.R_mono (Kd.R_far (p := ⟨gb482, 2, none⟩) (Kd.R_far (p := ⟨gb482, 1, none⟩) (Kd.R_far (p := ⟨gb482, 0, none⟩) (Kd.R_mono HO_481000.out (fun k_ hk => (⟨hk, hk.2⟩ : _ ∧ k_ ≠ gb482))) (fun _ hk => hk.2) (.string ((rd_T66 l0_0 x19_1).f0))) (fun _ hk => hk.2) (.string ((rd_T66 l0_0 x19_1).f1))) (fun _ hk => hk.2) (.int .i64 ((rd_T66 l0_0 x19_1).f2))) (fun _ hk => hk.1.2))⟩
           have n1_ : Aside0 ((((w42.setCell ⟨gb482, 0, none⟩ (.string ((rd_T66 l0_0 x19_1).f0))).setCell ⟨gb482, 1, none⟩ (.string ((rd_T66 l0_0 x19_1).f1))).setCell ⟨gb482, 2, none⟩ (.int .i64 ((rd_T66 l0_0 x19_1).f2))).heap[gb474]? = some (.cells #[.slice (some ad481) l0_0.length c0_0] 31 (0, 0))) := ⟨zf1 BK474.out NB474_482.out⟩
           have n2_ : Aside0 ((((w42.setCell ⟨gb482, 0, none⟩ (.string ((rd_T66 l0_0 x19_1).f0))).setCell ⟨gb482, 1, none⟩ (.string ((rd_T66 l0_0 x19_1).f1))).setCell ⟨gb482, 2, none⟩ (.int .i64 ((rd_T66 l0_0 x19_1).f2))).heap[gb475]? = some (.cells #[.slice none 0 0] 31 (0, 0))) := ⟨zf1 BK475.out NB475_482.out⟩
           have n3_ : Aside0 ((((w42.setCell ⟨gb482, 0, none⟩ (.string ((rd_T66 l0_0 x19_1).f0))).setCell ⟨gb482, 1, none⟩ (.string ((rd_T66 l0_0 x19_1).f1))).setCell ⟨gb482, 2, none⟩ (.int .i64 ((rd_T66 l0_0 x19_1).f2))).heap[gb480]? = some (.cells #[u481000] 31 (0, 0))) := ⟨zf1 BK480.out NB480_482.out⟩
           have n4_ : Aside0 ((((w42.setCell ⟨gb482, 0, none⟩ (.string ((rd_T66 l0_0 x19_1).f0))).setCell ⟨gb482, 1, none⟩ (.string ((rd_T66 l0_0 x19_1).f1))).setCell ⟨gb482, 2, none⟩ (.int .i64 ((rd_T66 l0_0 x19_1).f2))).heap[gb482]? = some (.cells #[.string ((rd_T66 l0_0 x19_1).f0), .string ((rd_T66 l0_0 x19_1).f1), .int .i64 ((rd_T66 l0_0 x19_1).f2)] 66 (0, 0))) := ⟨(zt210 BK482.out)⟩
           have n5_ : Aside0 (Below w.heap.size w (((w42.setCell ⟨gb482, 0, none⟩ (.string ((rd_T66 l0_0 x19_1).f0))).setCell ⟨gb482, 1, none⟩ (.string ((rd_T66 l0_0 x19_1).f1))).setCell ⟨gb482, 2, none⟩ (.int .i64 ((rd_T66 l0_0 x19_1).f2)))) := ⟨zb4 HB.out GE474.out GE475.out GE480.out GE482.out⟩
           generalize (((w42.setCell ⟨gb482, 0, none⟩ (.string ((rd_T66 l0_0 x19_1).f0))).setCell ⟨gb482, 1, none⟩ (.string ((rd_T66 l0_0 x19_1).f1))).setCell ⟨gb482, 2, none⟩ (.int .i64 ((rd_T66 l0_0 x19_1).f2))) = w47 at n0_ n1_ n2_ n3_ n4_ n5_ ⊢
           have HO_481000 := n0_
           have BK474 := n1_
           have BK475 := n2_
           have BK480 := n3_
           have BK482 := n4_
           have HB := n5_
           clear n0_ n1_ n2_ n3_ n4_ n5_
           replace HO_481000 := am (Kd.R_drew HO_481000.out)
           replace BK474 := zw BK474
           replace BK475 := zw BK475
           replace BK480 := zw BK480
           replace BK482 := zw BK482
           replace HB := am (below_drew1 HB.out)
           have p41 : 0 ≤ (x19_1 : Int) := zpq
           have q41 : (x19_1 : Int) < ((x481000_1.length : Int) : Int) := zpq
           obtain ⟨go41, co41, eo41, gb41, gl41, cl41, HG41⟩ := Kd.R_form HO_481000.out (by omega)
           (first | cases eo41 | (injection eo41 with ea_ en_ ec_; (first | subst ea_ | (injection ea_ with ea_; subst ea_)); subst ec_; clear en_))
           have GB41 := Aside0.mk gb41
           have GG41 := Aside0.mk HG41
           clear gb41 gl41 HG41
           obtain ⟨ce41, hcl41, hM41, hcc41, hfr41⟩ := Kd.R_elem HO_481000.out z66 (x19_1 : Int) p41 q41
           obtain rfl := k66_openM hM41
           have hx41_0 : World.cell? _ ⟨go41, (x19_1 : Int).toNat * 3, none⟩ = some (.string ((rd_T66 x481000_1 x19_1).f0)) := hcc41 0 _ rfl
           have hx41_1 : World.cell? _ ⟨go41, (x19_1 : Int).toNat * 3 + 1, none⟩ = some (.string ((rd_T66 x481000_1 x19_1).f1)) := hcc41 1 _ rfl
           have hx41_2 : World.cell? _ ⟨go41, (x19_1 : Int).toNat * 3 + 2, none⟩ = some (.int .i64 ((rd_T66 x481000_1 x19_1).f2)) := hcc41 2 _ rfl
           have hf41_0 : World.frozen? _ ⟨go41, (x19_1 : Int).toNat * 3, none⟩ = false := hfr41 0
           have hf41_1 : World.frozen? _ ⟨go41, (x19_1 : Int).toNat * 3 + 1, none⟩ = false := hfr41 1
           have hf41_2 : World.frozen? _ ⟨go41, (x19_1 : Int).toNat * 3 + 2, none⟩ = false := hfr41 2
           clear hcl41 hcc41 hfr41 hM41
           replace p41 := eq_true p41
           replace q41 := eq_true q41
           obtain ⟨ce49, hcl49, hM49, hcc49, hfr49⟩ := Kd.R_elem HO_481000.out z66 (x19_1 : Int) (of_decide_eq_true (by first | (with_reducible assumption) | assumption)) (by have h_ : (x19_1 : Int) < ((x481000_1.length : Int) : Int) := of_decide_eq_true (by first | (with_reducible assumption) | assumption); first | exact h_ | (have e_ := (Kd.R_reads' HO_481000.out).1; omega) | simpa using h_)
           obtain rfl := k66_openM hM49
           have HP49 := (Kd.R_seg HO_481000.out (x19_1 : Int) (of_decide_eq_true (by first | (with_reducible assumption) | assumption)) (by have h_ : (x19_1 : Int) < ((x481000_1.length : Int) : Int) := of_decide_eq_true (by first | (with_reducible assumption) | assumption); first | exact h_ | (have e_ := (Kd.R_reads' HO_481000.out).1; omega) | simpa using h_) (seg := [.string ((rd_T66 l0_0 x19_1).f0), .string (((rd_T66 l0_0 x19_1).f1).extract 0 (((rd_T66 l0_0 x19_1).f2) : Int).toNat), .int .i64 ((rd_T66 l0_0 x19_1).f2)]) (j := 0) hcl49 hcc49 (show 3 ≤ 3 from by decide) (x' := (⟨(rd_T66 l0_0 x19_1).f0, ((rd_T66 l0_0 x19_1).f1).extract 0 (((rd_T66 l0_0 x19_1).f2) : Int).toNat, (rd_T66 l0_0 x19_1).f2⟩ : S66)) (k66_mkM _ _ _ (⟨(rd_T66 l0_0 x19_1).f0, ((rd_T66 l0_0 x19_1).f1).extract 0 (((rd_T66 l0_0 x19_1).f2) : Int).toNat, (rd_T66 l0_0 x19_1).f2⟩ : S66) ) (fun _ hk => hk)).1
           rw [← Ny485.out] at HP49
           have HQ49 := Aside0.mk HP49
           clear hcl49 hcc49 hfr49 hM49 HP49
           refine start_ (n := 13) (S := fun w' => w'.cell? ⟨gb480, 0, none⟩ = some (.slice (some ⟨go41, 0, none⟩) x481000_1.length co41) ∧ w'.cell? ⟨gb482, 0, none⟩ = some (.string ((rd_T66 l0_0 x19_1).f0)) ∧ w'.cell? ⟨gb482, 1, none⟩ = some (.string ((rd_T66 l0_0 x19_1).f1)) ∧ w'.cell? ⟨gb482, 2, none⟩ = some (.int .i64 ((rd_T66 l0_0 x19_1).f2))) (ds := [12]) #[false, false, false, false, false, false, false, false, false, false, false, false, false] (by kernel_rfl) rfl rfl ⟨ct BK480.out 0, ct BK482.out 0, ct BK482.out 1, ct BK482.out 2⟩ (fun hHeld => ?_); refine with_tabW impl_LoseDisk.tab10 impl_LoseDisk.bits10 (fun HT_ HW_ => ?_)
           generalize w47.drew = w48 at HO_481000 BK474 BK475 BK480 BK482 HB GG41 HQ49 hf41_0 hf41_1 hf41_2 hx41_0 hx41_1 hx41_2 hHeld ⊢
           refine zpu 0 40 #[true, false, false, false, false, false, false, false, false, false, false, false, false] HT_ ?_
           refine zpu 2 42 #[true, false, true, false, false, false, false, false, false, false, false, false, false] HT_ ?_
           refine zpu 3 43 #[true, false, true, true, false, false, false, false, false, false, false, false, false] HT_ ?_
           refine zpu 5 45 #[true, false, true, true, false, true, false, false, false, false, false, false, false] HT_ ?_
           refine zpu 7 47 #[true, false, true, true, false, true, false, true, false, false, false, false, false] HT_ ?_
           refine zpu 9 49 #[true, false, true, true, false, true, false, true, false, true, false, false, false] HT_ ?_
           refine ztk4 1 41 #[true, true, true, true, false, true, false, true, false, true, false, false, false] HT_ HW_ hHeld ?_
           refine ztk4 4 44 #[true, true, true, true, true, true, false, true, false, true, false, false, false] HT_ HW_ hHeld ?_
           refine ztk4 6 46 #[true, true, true, true, true, true, true, true, false, true, false, false, false] HT_ HW_ hHeld ?_
           refine zpu 8 48 #[true, true, true, true, true, true, true, true, true, true, false, false, false] HT_ ?_
           refine zpu 10 50 #[true, true, true, true, true, true, true, true, true, true, true, false, false] HT_ ?_
           refine zpu 11 51 #[true, true, true, true, true, true, true, true, true, true, true, true, false] HT_ ?_
           refine last_ (i := 12) (N := none) #[true, true, true, true, true, true, true, true, true, true, true, true, true] rfl rfl (one_of HT_.out (by kernel_rfl)) (by decide) (fun K hK => ?_)
           refine skip_ (w1 := ?_) (by rfl) rfl ?_ ?_
           rotate_left
           ·go_simp
            rfl
           refine hK.out _ _ ?_
           clear hK K
           refine zdn HT_ ?_
           try go_wp2
           go_roundg k1
           case measure => have := HK1.out; omega
           case rel => exact ⟨(wrap64 (x19_1 + 1)), (y485), (.slice (some ⟨go41, 0, none⟩) x481000_1.length co41), (by first | rfl | (simp; done) | (simp [*]; done)), H', ⟨by have := HK1.out; omega⟩, ⟨rx (Kd.R_mono HQ49.out (fun _ hk => trivial))⟩, ⟨by (with_reducible repeat (first | refine blk_drewN ?_ _ | refine blk_drew ?_ | refine blk_alloc ?_ _)); refine blk_far ?_ (by have h_ := Kd.R_ne HO_481000.out BK474.out (by decide); intro e_; exact h_ (by rw [e_]; rfl)) _; (with_reducible repeat (first | refine blk_drewN ?_ _ | refine blk_drew ?_ | refine blk_alloc ?_ _)); refine blk_far ?_ (by have h_ := Kd.R_ne HO_481000.out BK474.out (by decide); intro e_; exact h_ (by rw [e_]; rfl)) _; (with_reducible repeat (first | refine blk_drewN ?_ _ | refine blk_drew ?_ | refine blk_alloc ?_ _)); refine blk_far ?_ (by have h_ := Kd.R_ne HO_481000.out BK474.out (by decide); intro e_; exact h_ (by rw [e_]; rfl)) _; (with_reducible repeat (first | refine blk_drewN ?_ _ | refine blk_drew ?_ | refine blk_alloc ?_ _)); exact BK474.out⟩, ⟨by (with_reducible repeat (first | refine blk_drewN ?_ _ | refine blk_drew ?_ | refine blk_alloc ?_ _)); refine blk_far ?_ (by have h_ := Kd.R_ne HO_481000.out BK475.out (by decide); intro e_; exact h_ (by rw [e_]; rfl)) _; (with_reducible repeat (first | refine blk_drewN ?_ _ | refine blk_drew ?_ | refine blk_alloc ?_ _)); refine blk_far ?_ (by have h_ := Kd.R_ne HO_481000.out BK475.out (by decide); intro e_; exact h_ (by rw [e_]; rfl)) _; (with_reducible repeat (first | refine blk_drewN ?_ _ | refine blk_drew ?_ | refine blk_alloc ?_ _)); refine blk_far ?_ (by have h_ := Kd.R_ne HO_481000.out BK475.out (by decide); intro e_; exact h_ (by rw [e_]; rfl)) _; (with_reducible repeat (first | refine blk_drewN ?_ _ | refine blk_drew ?_ | refine blk_alloc ?_ _)); exact BK475.out⟩, ⟨by (with_reducible repeat (first | refine blk_drewN ?_ _ | refine blk_drew ?_ | refine blk_alloc ?_ _)); refine blk_far ?_ (by have h_ := Kd.R_ne HO_481000.out BK480.out (by decide); intro e_; exact h_ (by rw [e_]; rfl)) _; (with_reducible repeat (first | refine blk_drewN ?_ _ | refine blk_drew ?_ | refine blk_alloc ?_ _)); refine blk_far ?_ (by have h_ := Kd.R_ne HO_481000.out BK480.out (by decide); intro e_; exact h_ (by rw [e_]; rfl)) _; (with_reducible repeat (first | refine blk_drewN ?_ _ | refine blk_drew ?_ | refine blk_alloc ?_ _)); refine blk_far ?_ (by have h_ := Kd.R_ne HO_481000.out BK480.out (by decide); intro e_; exact h_ (by rw [e_]; rfl)) _; (with_reducible repeat (first | refine blk_drewN ?_ _ | refine blk_drew ?_ | refine blk_alloc ?_ _)); exact BK480.out⟩, ⟨zb7 HB.out GB41.out GB41.out GB41.out GE474.out GE475.out GE480.out GE482.out⟩⟩
          ·rw [if_neg c40] at H
           exact absurd H (by simp)
         ·rw [if_neg c39] at H
          exact absurd H (by simp)
        ·rw [if_neg c38] at H
         exact absurd H (by simp)
      ·rw [if_neg c21] at H
       exact absurd H (by simp)
     ·rw [if_neg c20] at H
      exact absurd H (by simp)
    ·rw [if_neg c19] at H
     have c19b0 : decide (x19_1 < (l0_0.length : Int)) = false := decide_eq_false c19
     have c19b1 : decide ((l0_0.length : Int) ≤ x19_1) = true := decide_eq_true (by omega)
     clear c19
     simp only [Option.some.injEq, Prod.mk.injEq] at H
     obtain ⟨rfl, rfl⟩ := H
     obtain ⟨hnb50, hnc50⟩ := zn2 NB480_474
     obtain ⟨hnb51, hnc51⟩ := zn2 NB480_475
     obtain ⟨hcz52_0, hfz52_0⟩ := zc1 BK480.out
     obtain ⟨Ao53, co53, eo53⟩ := Kd.R_slice HO_481000.out
     subst eo53
     obtain ⟨hnb54, hnc54⟩ := zn2 NB475_474
     obtain ⟨hcz55_0, hfz55_0⟩ := zc1 BK475.out
     go_wp2
     refine bodyPost_ret (results_ct rfl _ _ gb475 31 #[.slice Ao53 x481000_1.length co53] (0, 0) _ rfl (zp0 BK475.out) Try.underlying31 rfl (by kernel_rfl)) rfl ?_
     exact ⟨_, by first | rfl | (simp [errW_none, errW_some] <;> rfl) | (simp [*, errW_none, errW_some] <;> rfl), rx (Kd.R_mono (Kd.R_far (p := ⟨gb475, 0, none⟩) (Kd.R_types HO_481000.out BK475.out (by decide)) (fun _ hk => hk.2) (.slice Ao53 x481000_1.length co53)) (fun _ hk => trivial)), zb3 HB.out GE474.out GE475.out GE480.out⟩
 ·replace c4 := Bool.eq_false_iff.mpr c4
  subst c4
  have H1 : (some (([] : List (S66)), false)) = some (r1, r2) := by rw [if_neg (show ¬ (false = true) by decide)] at H; exact H
  clear H
  have H := H1
  clear H1
  simp only [Option.some.injEq, Prod.mk.injEq] at H
  obtain ⟨rfl, rfl⟩ := H
  go_enter Try.func55, Try.ntmps55
  go_wp2_with (first | ((with_reducible refine gate_dst (N := 2) rfl ?_); refine box_event rfl (N := 2) rfl (cs := #[.slice A0_0 l0_0.length c0_0]) (t := 31) zrun ?_; intro gb474 hg w56 hbox hb; have BK474 := am (hbox); have GW474 := zge hg (zb0 HB.out); have GE474 := zge hg (zb0 HB.out); replace HB := zs0 hb HB; clear hb hbox hg) | ((with_reducible refine gate_dst (N := 4) rfl ?_); refine box_event rfl (N := 4) rfl (cs := #[.slice none 0 0]) (t := 31) zrun ?_; intro gb475 hg w57 hbox hb; have BK475 := am (hbox); have GW475 := zge hg (zb1 HB.out GE474.out); have GE475 := zge hg (zb1 HB.out GE474.out); obtain ⟨NB474_475, NB475_474⟩ := zne hg BK474; replace BK474 := zk hb BK474; replace HB := zs1 hb HB GE474; clear hb hbox hg; obtain ⟨hnb58, hnc58⟩ := zn2 NB474_475; obtain ⟨hcz59_0, hfz59_0⟩ := zc1 BK474.out) | ((with_reducible refine gate_callee (f := 39) rfl ?_); refine goesL_ (some 11) rfl rfl Try.func39 (by kernel_rfl) rfl #[.agg #[.slice A0_0 l0_0.length c0_0]] rfl zr ?_; (with_reducible refine (impl_DiskOk.calls k _ _ l0_0 false _ ?side1 ?side2 A3.out).mono ?_); (case side1 => repeat (first | exact (Kd.C_below HR0_0.out HB.out) | (with_reducible refine Kd.C_alloc ?_ _) | (with_reducible refine Kd.C_drewN ?_ _) | (with_reducible refine Kd.C_drew ?_))); (case side2 => exact HC0_0.out); rintro e w60 ⟨rfl, hb⟩; refine ⟨_, rfl, ?_⟩; replace BK474 := zk hb BK474; replace BK475 := zk hb BK475; replace HB := zs2 hb HB GE474 GE475; clear hb; obtain ⟨hcz61_0, hfz61_0⟩ := zc1 BK475.out))
  refine bodyPost_ret (results_ct rfl _ _ gb475 31 #[.slice none 0 0] (0, 0) _ rfl (zp0 BK475.out) Try.underlying31 rfl (by kernel_rfl)) rfl ?_
  exact ⟨_, by first | rfl | (simp [errW_none, errW_some] <;> rfl) | (simp [*, errW_none, errW_some] <;> rfl), by first | exact Kd.R_nil _ _ _ _ _ | exact Kd.N_nil _ _ _ _ _ | exact Kd.V_nil _ _ _ _ _ | exact Kd.Q_nil _ _ _ _ _ | exact Kd.S_nil _ _ _ _ _, zb2 HB.out GE474.out GE475.out⟩

end Go.Proofs.Ytklbkkoojkmjbaa.QFnActs
